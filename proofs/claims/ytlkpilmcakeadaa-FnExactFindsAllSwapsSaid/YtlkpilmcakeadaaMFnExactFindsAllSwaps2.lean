/- Part 2 of 2 of the proof of: FnExactFindsAllSwapsSaid: the law 'FnExactFindsAllSwaps' answers true for every input, and leaves its arguments as they were. The row, over the walk of its calls and the pure statement. -/
import Derived.Test.YtlkpilmcakeadaaMFnExactFindsAllSwaps1
import Derived.Test.YtlkpilmcakeadaaWWords
import Derived.Test.YtlkpilmcakeadaaWMore
import Derived.WalkKit
import Derived.ProofKit
import Derived.OpenShut
import Derived.ShutString
import Derived.ChangeOld
import Derived.Below
import Derived.SizedLaws
import Derived.ChangeSlices
import Derived.SliceStrings
import Derived.Lib.SmallJoins
import Derived.LaidLaws
import Derived.LaidHandle
import Derived.LaidMore
import Derived.Test.YtlkpilmcakeadaaRows
namespace Go.Proofs.Ytlkpilmcakeadaa
open Go.RowKit Go.Proofs.Ytlkpilmcakeadaa.P Go.Proofs.YtlkpilmcakeadaaW.PrintWords Go.Proofs.YtlkpilmcakeadaaW.PrintLast
/-- The pure statement of FnExactFindsAllSwaps. -/
def PureFnExactFindsAllSwaps : Prop := ∀ (a0_0 : Int) (l0_1 : List Int), (Lit.int .i64 a0_0).wf = true → (l0_1.length ≤ 9223372036854775807 ∧ ∀ x ∈ l0_1, (Lit.int .i64 x).wf = true) →  ∃ k, laws_FnExactFindsAllSwaps.f k a0_0 l0_1 = some true
end Go.Proofs.Ytlkpilmcakeadaa

namespace Go.Proofs.Ytlkpilmcakeadaa
open Go.RowKit Go.Proofs.YtlkpilmcakeadaaW.PrintWords
/-! Plain words for the pure statements: answers that stand from some number of rounds on. -/
theorem Ev.succ {α : Type} {g : Nat → Option α} {r : α} (h : Ev (fun k => g (k + 1)) r) : Ev g r := Ev.step (fun _ => rfl) h
theorem Ev.const {α : Type} {a : Option α} {r : α} (h : a = some r) : Ev (fun _ => a) r := ⟨0, fun _ _ => h⟩
theorem Ev.pos {α : Type} {c : Prop} [Decidable c] {g f : Nat → Option α} {r : α} (hc : c) (h : Ev g r) : Ev (fun k => if c then g k else f k) r := by simp only [if_pos hc]; exact h
theorem Ev.neg {α : Type} {c : Prop} [Decidable c] {g f : Nat → Option α} {r : α} (hc : ¬ c) (h : Ev f r) : Ev (fun k => if c then g k else f k) r := by simp only [if_neg hc]; exact h
theorem Ev.yes {α : Type} {c : Prop} [Decidable c] {g f : Nat → Option α} {r : α} (h : Ev g r) (hc : c := by first | omega | rfl | trivial | decide | simp | (simp; omega)) : Ev (fun k => if c then g k else f k) r := Ev.pos hc h
theorem Ev.no {α : Type} {c : Prop} [Decidable c] {g f : Nat → Option α} {r : α} (h : Ev f r) (hc : ¬ c := by first | omega | decide | simp | (simp; omega)) : Ev (fun k => if c then g k else f k) r := Ev.neg hc h
theorem Ev.bindc {α β : Type} {a : Option α} {x : α} {f : Nat → α → Option β} {r : β} (h : a = some x) (k : Ev (fun n => f n x) r) : Ev (fun n => a.bind (f n)) r := by subst h; exact k
theorem wrap_id {n : Int} (h1 : -9223372036854775808 ≤ n) (h2 : n ≤ 9223372036854775807) : wrap64 n = n := IntWalk.wrap64_in n ⟨h1, h2⟩
theorem wf_i64 {n : Int} (h : (Lit.int .i64 n).wf = true) : -9223372036854775808 ≤ n ∧ n ≤ 9223372036854775807 := by
  have e1 : IntKind.i64.min = -9223372036854775808 := rfl
  have e2 : IntKind.i64.max = 9223372036854775807 := rfl
  simp only [Lit.wf, e1, e2, Bool.and_eq_true, decide_eq_true_eq] at h
  exact h
theorem rd_nat (l : List Int) (j : Nat) (h : j < l.length) : rd l (j : Int) = l[j] := by unfold rd; simp [List.getD, h]
end Go.Proofs.Ytlkpilmcakeadaa

namespace Go.Proofs.Ytlkpilmcakeadaa
open Go.RowKit Go.Proofs.Ytlkpilmcakeadaa.P Go.Proofs.YtlkpilmcakeadaaW.PrintWords
theorem szIntS_eq (l : List Int) (h : l.length ≤ 9223372036854775807) : laws_szIntS.f l 1048576 = some (if l.length ≤ 1048576 then 1048576 - (l.length : Int) else -1) := by
  unfold laws_szIntS.f
  rw [wrap_id (by omega) (by omega)]
  by_cases c : l.length ≤ 1048576
  · rw [if_neg (by omega), if_pos c]
  · rw [if_pos (by omega), if_neg c]
theorem toIntS_l0 (x0 : List Int) (h : x0.length ≤ 1048576) : ∀ (d i : Nat) (x3 : List Int), i + d = x0.length → x3.length = x0.length → x3.take i = x0.take i → Ev (fun k => laws_toIntS.l0 k x0 x3 i) x0
  | 0, i, x3, hi, h3, ht => by
    apply Ev.succ
    simp only [laws_toIntS.l0]
    refine Ev.neg (by omega) (Ev.const ?_)
    have e : i = x0.length := by omega
    rw [e, List.take_of_length_le (by omega), List.take_of_length_le (by omega)] at ht
    rw [ht]
  | d + 1, i, x3, hi, h3, ht => by
    apply Ev.succ
    simp only [laws_toIntS.l0]
    refine Ev.pos (by omega) (Ev.pos (by omega) (Ev.pos (by omega) ?_))
    rw [wrap_id (by omega) (by omega), Int.toNat_natCast, rd_nat x0 i (by omega)]
    have := toIntS_l0 x0 h d (i + 1) (x3.set i x0[i]) (by omega) (by simp [h3]) (by
      rw [List.take_succ_eq_append_getElem (by simp; omega), List.take_succ_eq_append_getElem (by omega), List.take_set_of_le (Nat.le_refl _), ht]
      simp)
    exact_mod_cast this
theorem toIntS_ev (l : List Int) (h : l.length ≤ 1048576) : Ev (fun k => laws_toIntS.f k l) l := by
  unfold laws_toIntS.f
  refine Ev.pos (by omega) (Ev.pos (by omega) ?_)
  exact toIntS_l0 l h l.length 0 _ (by omega) (by simp) (by simp)
theorem eqIntS_l0 (a b : List Int) (h : a.length = b.length) (hl : a.length ≤ 9223372036854775806) : ∀ (d i : Nat), i + d = a.length → Ev (fun k => laws_eqIntS.l0 k a b i) (decide (a.drop i = b.drop i))
  | 0, i, hi => by
    apply Ev.succ
    simp only [laws_eqIntS.l0]
    refine Ev.neg (by omega) (Ev.const ?_)
    rw [List.drop_of_length_le (by omega), List.drop_of_length_le (by omega)]; simp
  | d + 1, i, hi => by
    apply Ev.succ
    simp only [laws_eqIntS.l0]
    refine Ev.pos (by omega) (Ev.pos (by omega) (Ev.pos (by omega) ?_))
    rw [wrap_id (by omega) (by omega), rd_nat a i (by omega), rd_nat b i (by omega), List.drop_eq_getElem_cons (l := a) (by omega), List.drop_eq_getElem_cons (l := b) (by omega)]
    by_cases e : a[i] = b[i]
    · refine Ev.pos e ?_
      have := eqIntS_l0 a b h hl d (i + 1) (by omega)
      simp only [List.cons.injEq, e, true_and]
      exact_mod_cast this
    · refine Ev.neg e (Ev.const ?_)
      rw [decide_eq_false (fun h' => e (List.cons.inj h').1)]
theorem eqIntS_ev (a b : List Int) (hl : a.length ≤ 9223372036854775806) : Ev (fun k => laws_eqIntS.f k a b) (decide (a = b)) := by
  unfold laws_eqIntS.f
  by_cases h : a.length = b.length
  · refine Ev.pos (by omega) ?_
    exact eqIntS_l0 a b h hl a.length 0 (by omega)
  · refine Ev.neg (by omega) (Ev.const ?_)
    have : a ≠ b := fun e => h (by rw [e])
    simp [this]
end Go.Proofs.Ytlkpilmcakeadaa

namespace Go.Proofs.Ytlkpilmcakeadaa
open Go.RowKit Go.Proofs.Ytlkpilmcakeadaa.P Go.Proofs.YtlkpilmcakeadaaW.PrintWords
theorem szScheme_eq (m : Int) (l : List Int) (h : l.length ≤ 9223372036854775807) : laws_szScheme.f m l 1048576 = some (if l.length ≤ 1048576 then 1048576 - (l.length : Int) else -1) := by
  unfold laws_szScheme.f
  rw [szIntS_eq l h]
  simp only [Option.bind_some]
  by_cases c : l.length ≤ 1048576
  · rw [if_pos c, if_neg (by omega)]
  · rw [if_neg c, if_pos (by omega)]
theorem toScheme_ev (m : Int) (l : List Int) (h : l.length ≤ 1048576) : Ev (fun k => laws_toScheme.f k m l) (m, l) := by
  unfold laws_toScheme.f
  exact Ev.bind (toIntS_ev l h) (Ev.now _)
theorem eqScheme_ev (m : Int) (l : List Int) (h : l.length ≤ 1048576) : Ev (fun k => laws_eqScheme.f k m l m l) true := by
  unfold laws_eqScheme.f
  refine Ev.pos rfl (Ev.bind (eqIntS_ev l l (by omega)) ?_)
  simp only [decide_true, if_true]
  exact Ev.now _
theorem l1In_eq (n a b : Int) : spec_l1In.f n a b = some (decide (a ≤ n) && decide (n ≤ b)) := by
  unfold spec_l1In.f
  by_cases h : a ≤ n
  · rw [if_pos h]; simp [h]
  · rw [if_neg h]; simp [h]
theorem l1All_l0 (lo hi : Int) (l : List Int) (hl : l.length ≤ 9223372036854775806) : ∀ (d i : Nat), i + d = l.length → Ev (fun k => spec_l1All.l0 k lo hi l (l.length : Int) i) ((l.drop i).all fun x => decide (lo ≤ x) && decide (x ≤ hi))
  | 0, i, hi => by
    apply Ev.succ
    simp only [spec_l1All.l0]
    refine Ev.neg (by omega) (Ev.const ?_)
    rw [List.drop_of_length_le (by omega)]; rfl
  | d + 1, i, he => by
    apply Ev.succ
    simp only [spec_l1All.l0]
    refine Ev.pos (by omega) (Ev.pos (by omega) (Ev.pos (by omega) (Ev.bindc (l1In_eq _ _ _) ?_)))
    rw [wrap_id (by omega) (by omega), rd_nat l i (by omega), List.drop_eq_getElem_cons (l := l) (by omega), List.all_cons]
    cases hc : (decide (lo ≤ l[i]) && decide (l[i] ≤ hi)) with
    | true =>
      refine Ev.pos rfl ?_
      have := l1All_l0 lo hi l hl d (i + 1) (by omega)
      simp only [Bool.true_and]
      exact_mod_cast this
    | false => exact Ev.neg (by decide) (Ev.now _)
theorem l1All_ev (lo hi : Int) (l : List Int) (hl : l.length ≤ 9223372036854775806) : Ev (fun k => spec_l1All.f k l lo hi) (l.all fun x => decide (lo ≤ x) && decide (x ≤ hi)) := by
  unfold spec_l1All.f
  exact l1All_l0 lo hi l hl l.length 0 (by omega)
/-- Is a scheme right? -/
def goodB (m : Int) (l : List Int) : Bool := decide (2 ≤ m) && decide (m ≤ 13) && (decide (1 ≤ l.length) && decide (l.length ≤ 12)) && l.all fun x => decide (0 ≤ x) && decide (x ≤ m - 1)
theorem ckGood_ev (m : Int) (l : List Int) (hl : l.length ≤ 1048576) : Ev (fun k => spec_ckGood.f k m l) (goodB m l) := by
  unfold spec_ckGood.f goodB
  refine Ev.bindc (l1In_eq _ _ _) ?_
  cases h1 : (decide (2 ≤ m) && decide (m ≤ 13)) with
  | false => exact Ev.neg (by decide) (Ev.now _)
  | true =>
    refine Ev.pos rfl (Ev.bindc (l1In_eq _ _ _) ?_)
    have hm : 2 ≤ m ∧ m ≤ 13 := by simpa using h1
    have e : (decide ((1 : Int) ≤ (l.length : Int)) && decide ((l.length : Int) ≤ 12)) = (decide (1 ≤ l.length) && decide (l.length ≤ 12)) := by
      congr 1 <;> (rw [decide_eq_decide]; omega)
    rw [e]
    cases h2 : (decide (1 ≤ l.length) && decide (l.length ≤ 12)) with
    | false => exact Ev.neg (by decide) (Ev.now _)
    | true =>
      refine Ev.pos rfl (Ev.bind (l1All_ev _ _ l (by omega)) ?_)
      rw [wrap_id (by omega) (by omega)]
      simp only [Bool.true_and]
      exact Ev.now _
theorem implIsScheme_good (m : Int) (l : List Int) : impl_IsScheme.f m l = some (goodB m l) := by
  unfold impl_IsScheme.f goodB
  by_cases h1 : 2 ≤ m ∧ m ≤ 13
  · rw [wrap_id (by omega) (by omega)]
    congr 1
    rw [← Bool.and_assoc (decide (2 ≤ m) && decide (m ≤ 13))]
    congr 1
    rw [List.not_any_eq_all_not]
    simp
  · have : (decide (2 ≤ m) && decide (m ≤ 13)) = false := by
      rw [Bool.and_eq_false_iff]; simp only [decide_eq_false_iff_not]; omega
    simp [this]
end Go.Proofs.Ytlkpilmcakeadaa

namespace Go.Proofs.Ytlkpilmcakeadaa
open Go.RowKit Go.Proofs.Ytlkpilmcakeadaa.P Go.Proofs.YtlkpilmcakeadaaW.PrintWords
set_option linter.unusedSimpArgs false
set_option linter.unusedVariables false
/-! The two digits that a weight misses: both sides' lists. -/
/-- All two digits whose difference, times a number, is divided. -/
def tabM (M n : Int) : List (List Int) := (impl_pairsOf.f 200 (missedO M n)).getD []
theorem tabM_some : ∀ M : Fin 14, ∀ n : Fin 13, 2 ≤ M.val → impl_pairsOf.f 200 (missedO M.val n.val) = some (tabM M.val n.val) := by decide +kernel
theorem ckM_pos : ∀ M : Fin 14, ∀ n : Fin 13, 2 ≤ M.val → spec_ckMissed.f 200 (n.val : Int) M.val = some (tabM M.val n.val) := by decide +kernel
theorem ckM_neg : ∀ M : Fin 14, ∀ n : Fin 13, 2 ≤ M.val → spec_ckMissed.f 200 (-(n.val : Int)) M.val = some (tabM M.val n.val) := by decide +kernel
theorem missed_ev (M n : Int) (l : List Int) (h1 : 2 ≤ M) (h2 : M ≤ 13) (h3 : 0 ≤ n) (h4 : n ≤ 12) : Ev (fun k => impl_Scheme_missed.f k M l n) (tabM M n) := by
  refine Ev.of (k := 200) (impl_Scheme_missed.mono _ _ _) ?_
  have := tabM_some ⟨M.toNat, by omega⟩ ⟨n.toNat, by omega⟩ (by show 2 ≤ M.toNat; omega)
  simp only [Int.toNat_of_nonneg (show 0 ≤ M by omega), Int.toNat_of_nonneg h3] at this
  exact this
theorem ckMissed_ev (M d : Int) (h1 : 2 ≤ M) (h2 : M ≤ 13) (h3 : -12 ≤ d) (h4 : d ≤ 12) : Ev (fun k => spec_ckMissed.f k d M) (tabM M d.natAbs) := by
  refine Ev.of (k := 200) (spec_ckMissed.mono _ _) ?_
  by_cases c : 0 ≤ d
  · have := ckM_pos ⟨M.toNat, by omega⟩ ⟨d.toNat, by omega⟩ (by show 2 ≤ M.toNat; omega)
    simp only [Int.toNat_of_nonneg (show 0 ≤ M by omega), Int.toNat_of_nonneg c] at this
    rw [show ((d.natAbs : Nat) : Int) = d by omega]
    exact this
  · have := ckM_neg ⟨M.toNat, by omega⟩ ⟨d.natAbs, by omega⟩ (by show 2 ≤ M.toNat; omega)
    simp only [Int.toNat_of_nonneg (show 0 ≤ M by omega)] at this
    rw [show -((d.natAbs : Nat) : Int) = d by omega] at this
    exact this
theorem good_of {m : Int} {l : List Int} (h : goodB m l = true) : 2 ≤ m ∧ m ≤ 13 ∧ 1 ≤ l.length ∧ l.length ≤ 12 ∧ ∀ x ∈ l, 0 ≤ x ∧ x ≤ m - 1 := by
  unfold goodB at h
  simp only [Bool.and_eq_true, decide_eq_true_eq, List.all_eq_true] at h
  exact ⟨h.1.1.1, h.1.1.2, h.1.2.1, h.1.2.2, fun x hx => h.2 x hx⟩
end Go.Proofs.Ytlkpilmcakeadaa

/- FnExactFindsAllSwaps: both sides say of every scheme the same, and it is left as it was: over the functions that the walk computes. -/
namespace Go.Proofs.Ytlkpilmcakeadaa
open Go.RowKit Go.Proofs.Ytlkpilmcakeadaa.P Go.Proofs.YtlkpilmcakeadaaW.PrintWords
set_option linter.unusedSimpArgs false
set_option linter.unusedVariables false
namespace FindsAllSwaps
/-- Is a swap at some place from i on missed? -/
def badAt (M : Int) (l : List Int) (i : Nat) : Bool := decide (0 < (tabM M (rd l ((i : Int) - 1) - rd l i).natAbs).length)
def okFrom (M : Int) (l : List Int) : Nat → Nat → Bool
  | 0, _ => true
  | d + 1, i => !badAt M l i && okFrom M l d (i + 1)
theorem rd_in (l : List Int) (M : Int) (hx : ∀ x ∈ l, 0 ≤ x ∧ x ≤ M - 1) (i : Nat) (h : i < l.length) : 0 ≤ rd l i ∧ rd l i ≤ M - 1 := by
  rw [rd_nat l i h]; exact hx _ (List.getElem_mem h)
theorem spec_l0 (M : Int) (l : List Int) (h1 : 2 ≤ M) (h2 : M ≤ 13) (hl : l.length ≤ 12) (hx : ∀ x ∈ l, 0 ≤ x ∧ x ≤ M - 1) : ∀ (d i : Nat), 1 ≤ i → i + d = l.length → Ev (fun k => spec_FindsAllSwaps.l0 k i M l) (okFrom M l d i, true)
  | 0, i, h0, hi => by
    apply Ev.succ
    simp only [spec_FindsAllSwaps.l0]
    exact Ev.neg (by omega) (Ev.now _)
  | d + 1, i, h0, hi => by
    have b1 := rd_in l M hx i (by omega)
    have b2 := rd_in l M hx (i - 1) (by omega)
    rw [show ((i - 1 : Nat) : Int) = (i : Int) - 1 by omega] at b2
    have e1 : wrap64 ((i : Int) - 1) = (i : Int) - 1 := wrap_id (by omega) (by omega)
    have e2 : wrap64 (rd l ((i : Int) - 1) - rd l i) = rd l ((i : Int) - 1) - rd l i := wrap_id (by omega) (by omega)
    have e3 : wrap64 ((i : Int) + 1) = ((i + 1 : Nat) : Int) := by rw [wrap_id (by omega) (by omega)]; omega
    apply Ev.succ
    simp only [spec_FindsAllSwaps.l0]
    rw [e1, e2, e3]
    refine Ev.pos (by omega) (Ev.pos (by omega) (Ev.pos (by omega) (Ev.pos (by omega) (Ev.bind (ckMissed_ev M _ h1 h2 (by omega) (by omega)) ?_))))
    unfold okFrom badAt
    by_cases c : 0 < (tabM M (rd l ((i : Int) - 1) - rd l i).natAbs).length
    · refine Ev.pos (by omega) (Ev.const ?_)
      rw [decide_eq_true c]; rfl
    · refine Ev.neg (by omega) ?_
      rw [decide_eq_false c]
      exact spec_l0 M l h1 h2 hl hx d (i + 1) (by omega) (by omega)
theorem size_eq (d : Int) (h1 : -12 ≤ d) (h2 : d ≤ 12) : impl_size.f d = some ((d.natAbs : Nat) : Int) := by
  unfold impl_size.f
  by_cases c : d < 0
  · first
      | (rw [if_pos c]; congr 1; first | (rw [wrap_id (by omega) (by omega)]; omega) | omega)
      | (simp only [c]; congr 1; omega)
      | (congr 1; unfold mx; split <;> (first | (rw [wrap_id (by omega) (by omega)]; omega) | (rw [wrap_id (by omega) (by omega)] at *; omega) | omega))
  · first
      | (rw [if_neg c]; congr 1; omega)
      | (congr 1; unfold mx; split <;> (first | (rw [wrap_id (by omega) (by omega)]; omega) | (rw [wrap_id (by omega) (by omega)] at *; omega) | omega))
theorem impl_l0 (M : Int) (l : List Int) (h1 : 2 ≤ M) (h2 : M ≤ 13) (hl : l.length ≤ 12) (hx : ∀ x ∈ l, 0 ≤ x ∧ x ≤ M - 1) : ∀ (d i : Nat), 1 ≤ i → i + d = l.length → Ev (fun k => impl_FindsAllSwaps.l0 k i M l) (okFrom M l d i, true)
  | 0, i, h0, hi => by
    apply Ev.succ
    simp only [impl_FindsAllSwaps.l0]
    exact Ev.neg (by omega) (Ev.now _)
  | d + 1, i, h0, hi => by
    have b1 := rd_in l M hx i (by omega)
    have b2 := rd_in l M hx (i - 1) (by omega)
    rw [show ((i - 1 : Nat) : Int) = (i : Int) - 1 by omega] at b2
    have e1 : wrap64 ((i : Int) - 1) = (i : Int) - 1 := wrap_id (by omega) (by omega)
    have e2 : wrap64 (rd l ((i : Int) - 1) - rd l i) = rd l ((i : Int) - 1) - rd l i := wrap_id (by omega) (by omega)
    have e3 : wrap64 ((i : Int) + 1) = ((i + 1 : Nat) : Int) := by rw [wrap_id (by omega) (by omega)]; omega
    apply Ev.succ
    simp only [impl_FindsAllSwaps.l0]
    rw [e1, e2, e3]
    refine Ev.pos (by omega) (Ev.pos (by omega) (Ev.pos (by omega) (Ev.pos (by omega) (Ev.bindc (size_eq _ (by omega) (by omega)) (Ev.bind (missed_ev M _ l h1 h2 (by omega) (by omega)) ?_)))))
    unfold okFrom badAt
    by_cases c : 0 < (tabM M (rd l ((i : Int) - 1) - rd l i).natAbs).length
    · refine Ev.pos (by omega) (Ev.const ?_)
      rw [decide_eq_true c]; rfl
    · refine Ev.neg (by omega) ?_
      rw [decide_eq_false c]
      exact impl_l0 M l h1 h2 hl hx d (i + 1) (by omega) (by omega)
theorem both_ev (m : Int) (l : List Int) (c : l.length ≤ 1048576) : ∃ r : Bool × Bool, Ev (fun k => spec_FindsAllSwaps.f k m l) r ∧ Ev (fun k => impl_FindsAllSwaps.f k m l) r := by
  cases hg : goodB m l with
  | false =>
    refine ⟨(false, false), ?_, ?_⟩
    · unfold spec_FindsAllSwaps.f
      refine Ev.bind (ckGood_ev m l c) ?_
      rw [hg]; exact Ev.no (Ev.now _)
    · unfold impl_FindsAllSwaps.f
      refine Ev.bindc (implIsScheme_good m l) ?_
      rw [hg]; exact Ev.no (Ev.now _)
  | true =>
    obtain ⟨h1, h2, h3, h4, hx⟩ := good_of hg
    refine ⟨(okFrom m l (l.length - 1) 1, true), ?_, ?_⟩
    · unfold spec_FindsAllSwaps.f
      refine Ev.bind (ckGood_ev m l c) ?_
      rw [hg]
      exact Ev.yes (spec_l0 m l h1 h2 h4 hx (l.length - 1) 1 (by omega) (by omega))
    · unfold impl_FindsAllSwaps.f
      refine Ev.bindc (implIsScheme_good m l) ?_
      rw [hg]
      exact Ev.yes (impl_l0 m l h1 h2 h4 hx (l.length - 1) 1 (by omega) (by omega))
end FindsAllSwaps
open FindsAllSwaps in
theorem pure_FnExactFindsAllSwaps : PureFnExactFindsAllSwaps := by
  intro m l _ hl
  refine Ev.rounds (g := fun k => laws_FnExactFindsAllSwaps.f k m l) ?_
  unfold laws_FnExactFindsAllSwaps.f
  refine Ev.bindc (szScheme_eq m l hl.1) ?_
  by_cases c : l.length ≤ 1048576
  · rw [if_pos c]
    obtain ⟨r, hs, hi⟩ := both_ev m l c
    refine Ev.neg (by omega) (Ev.bind (toScheme_ev m l c) (Ev.bind hs (Ev.bind (toScheme_ev m l c) (Ev.bind hi ?_))))
    refine Ev.neg (by simp) (Ev.succ ?_)
    simp only [laws_FnExactFindsAllSwaps.j0]
    refine Ev.neg (by simp) (Ev.bind (toScheme_ev m l c) (Ev.bind (eqScheme_ev m l c) ?_))
    exact Ev.pos rfl (Ev.now _)
  · rw [if_neg c]
    exact Ev.pos (by omega) (Ev.now _)
end Go.Proofs.Ytlkpilmcakeadaa

namespace Go.Proofs.Ytlkpilmcakeadaa
open Go.RowKit Go.Proofs.YtlkpilmcakeadaaW.PrintWords Go.ChangeShapes Go.WideShapes

theorem C_scalar {α : Type} {enc : α → Value} {h1 : ∀ x, (enc x).oneCell' = true} {w : World} {A : Option Addr} {l : List α} (hn : l.length ≤ 9223372036854775807)
    (hcell : 0 < l.length → ∃ ad, A = some ad ∧ ∀ j x, l[j]? = some x → w.cell? (ad.add j) = some (enc x)) : (Kd.scalar enc h1).C w A l.length l := by
  refine ⟨rfl, hn, fun hp => ?_⟩
  obtain ⟨ad, hA, hc⟩ := hcell hp
  refine ⟨ad, hA, fun j x hx => ⟨[enc x], rfl, rfl, fun i u hu => ?_⟩⟩
  match i, hu with
  | 0, hu =>
    have : enc x = u := by simpa using hu
    subst this
    show w.cell? (ad.add (j * 1 + 0)) = _
    rw [Nat.mul_one, Nat.add_zero]
    exact hc j x hx
  | i + 1, hu => simp at hu

section
variable {H : Type} {enc : TypeId × Value → H} {P : Program} {w : World} {base : Nat} {spare : Nat → Bool} {held : Bool}

/-- A cell that reads at a slice of whole numbers. -/
theorem read_ints {t e : TypeId} {k : IntKind} {fuel : Nat} {v : Value} {y : DataW H × List MemPlace} (ht : P.underlying t = some (.slice e)) (he : P.underlying e = some (.int k)) (hc : P.cellsOf e = 1)
    (hf : DataW.trod enc P w base spare held fuel t [v] = some y) :
    ∃ (A : Option Addr) (c : Nat) (l : List Int), v = .slice A l.length c ∧ l.length ≤ c ∧ (∀ x ∈ l, (Lit.int k x).wf = true) ∧ (Kd.int k).C w A l.length l := by
  rcases open_ints ht he hc hf with ⟨hcs, _⟩ | ⟨a, len, cap, zs, hcs, _, hl, hm, hz, _, hcell, hwf⟩
  · obtain rfl : v = .slice none 0 0 := by simpa using hcs
    exact ⟨none, 0, [], rfl, Nat.le_refl _, fun x hx => by simp at hx, rfl, by simp, fun h => absurd h (by simp)⟩
  · obtain rfl : v = .slice (some a) len cap := by simpa using hcs
    have hlz : len ≤ zs.length := by rw [hz]; split <;> omega
    have hlen : (zs.take len).length = len := by rw [List.length_take]; omega
    refine ⟨some a, cap, zs.take len, by rw [hlen], by rw [hlen]; exact hl, fun x hx => hwf x (List.mem_of_mem_take hx), ?_⟩
    refine C_scalar (by rw [hlen]; unfold maxLen at hm; omega) (fun hp => ⟨a, rfl, fun j x hj => ?_⟩)
    have hj' : j < len := by have := (List.getElem?_eq_some_iff.1 hj).1; rw [hlen] at this; exact this
    rw [hcell j (by omega)]
    rw [List.getElem?_take_of_lt hj'] at hj
    rw [List.getD_eq_getElem?_getD, hj]; rfl

/-- A cell that reads at a slice of strings. -/
theorem read_strs {t e : TypeId} {fuel : Nat} {v : Value} {y : DataW H × List MemPlace} (ht : P.underlying t = some (.slice e)) (he : P.underlying e = some .string) (hc : P.cellsOf e = 1)
    (hf : DataW.trod enc P w base spare held fuel t [v] = some y) :
    ∃ (A : Option Addr) (c : Nat) (l : List ByteArray), v = .slice A l.length c ∧ l.length ≤ c ∧ (∀ s ∈ l, s.size ≤ 9223372036854775807) ∧ Kd.string.C w A l.length l := by
  rcases open_strings ht he hc hf with ⟨hcs, _⟩ | ⟨a, len, cap, zs, hcs, _, hl, hm, hz, _, hcell, hwf⟩
  · obtain rfl : v = .slice none 0 0 := by simpa using hcs
    exact ⟨none, 0, [], rfl, Nat.le_refl _, fun x hx => by simp at hx, rfl, by simp, fun h => absurd h (by simp)⟩
  · obtain rfl : v = .slice (some a) len cap := by simpa using hcs
    have hlz : len ≤ zs.length := by rw [hz]; split <;> omega
    have hlen : (zs.take len).length = len := by rw [List.length_take]; omega
    refine ⟨some a, cap, zs.take len, by rw [hlen], by rw [hlen]; exact hl, fun x hx => by have := hwf x (List.mem_of_mem_take hx); unfold maxLen at this; omega, ?_⟩
    refine C_scalar (by rw [hlen]; unfold maxLen at hm; omega) (fun hp => ⟨a, rfl, fun j x hj => ?_⟩)
    have hj' : j < len := by have := (List.getElem?_eq_some_iff.1 hj).1; rw [hlen] at this; exact this
    rw [hcell j (by omega)]
    rw [List.getElem?_take_of_lt hj'] at hj
    rw [List.getD_eq_getElem?_getD, hj]; rfl

theorem read_int {t : TypeId} {k : IntKind} {fuel : Nat} {v : Value} {y : DataW H × List MemPlace} (ht : P.underlying t = some (.int k))
    (hf : DataW.trod enc P w base spare held fuel t [v] = some y) : ∃ n : Int, v = .int k n ∧ (Lit.int k n).wf = true := by
  obtain ⟨n, e1, _, h⟩ := DataW.trod_int ht hf
  exact ⟨n, by simpa using e1, h⟩
end

/-- The cells of a datum that holds numbers alone, an array's elements being numbers or structs of numbers. -/
def litsOf : DataW Unit → List Value
  | .lit (.int k n) => [.int k n]
  | .agg l => l.flatMap fun
    | .lit (.int k n) => [.int k n]
    | .agg l2 => l2.flatMap fun
      | .lit (.int k n) => [.int k n]
      | _ => []
    | _ => []
  | _ => []
end Go.Proofs.Ytlkpilmcakeadaa

/- FnExactFindsAllSwapsSaid: the law 'FnExactFindsAllSwaps' answers true for every input, and leaves its arguments as they were. The row, over the walk of its calls and the pure statement. -/
namespace Go.Proofs.Ytlkpilmcakeadaa.fnExactFindsAllSwaps
open Go.ChangeShapes Go.WideShapes Go.ChangeAt Go.RowKit Go.Proofs.Ytlkpilmcakeadaa.P Go.Proofs.YtlkpilmcakeadaaW.PrintWords
open Go.ChangeMaps (open_string shut_string)
set_option linter.unusedVariables false
theorem own : ownKnob Try.prog.godebug = none := by kernel_rfl
theorem laidOut : laidOutB Try.prog = true := by kernel_rfl
set_option maxRecDepth 100000 in
theorem lifted (os : Os) (started : os.Started) (H : Type) (enc : TypeId × Value → H) :
    ReturnsInHanded {} Try.checked os 6 .any (Rows.fnExactFindsAllSwapsSpec.pre6 enc Try.prog Try.f6 Rows.fnExactFindsAllSwapsRow.domain false) (Rows.fnExactFindsAllSwapsSpec.post enc Try.prog Try.f6 false true false false) := by
  refine returnsInHanded_of_change_sized (C := Try.checked) own started (by kernel_rfl) Try.func6
    (ChangeSpec.witness6 (enc := enc) (C := Try.checked) false ⟨#[], #[.agg #[.int .i64 0, .slice none 0 0]], []⟩ 8 (by kernel_rfl) (by kernel_rfl) (by kernel_rfl) (by kernel_rfl)) ?_
  intro W base args ds gs before hval0 hW hcnd hsz0 _
  have hval : ∀ (j : Nat) t v, Try.f6.params[j]? = some t → args[j]? = some v → Value.okWide Try.prog W .any base t v := hval0
  have hW' := hW
  obtain ⟨p, q, hA0, hV, rfl, hfz, hnd⟩ := hW
  have hA : DataW.TrodAll enc Try.prog W 0 (fun _ => true) true Try.f6.params.toList args.toList ds p := hA0
  rw [Try.params6] at hA hval
  obtain ⟨v0, vs0, d0, ds0, p0, q0, hargs, rfl, rfl, h0, r0⟩ := trodAll_cons hA
  obtain ⟨rfl, rfl, rfl⟩ := trodAll_nil r0
  obtain rfl : args = #[v0] := by cases args; simp_all
  obtain ⟨rfl, rfl⟩ := trodVars_none hV
  have k0 := h0
  have lt0 : ∀ x ∈ p0, x.block < W.heap.size := by obtain ⟨m, hm⟩ := k0; exact DataW.trod_lt m _ _ _ hm
  obtain ⟨v0_0, v0_1, y0_0, y0_1, n0, rfl, rfl, rfl, g0_0, g0_1⟩ := Go.Joins.open_agg2 Try.underlying29 (by kernel_rfl) (by kernel_rfl) (hval 0 29 v0 rfl rfl) h0
  obtain ⟨a0_0, rfl, w0_0⟩ := read_int Try.underlying3 g0_0
  obtain ⟨A0_1, c0_1, l0_1, rfl, hc0_1, hw0_1, hr0_1⟩ := read_ints Try.underlying27 Try.underlying3 (by kernel_rfl) g0_1
  clear hA0 hval0
  obtain ⟨k, hk⟩ := pure_FnExactFindsAllSwaps a0_0 l0_1 w0_0 ⟨hr0_1.2.1, hw0_1⟩
  refine (laws_FnExactFindsAllSwaps.calls k a0_0 A0_1 c0_1 l0_1 true W hr0_1 hc0_1 hk).mono fun e W' ⟨he, bel0⟩ => ?_
  have bel : Below W.heap.size W W' := bel0
  subst he
  exact ⟨_, rfl, _, _, _, [], _, [], hW', trodAll_mk1 (shut_bool Try.underlying4 _), (trodAll_cons_mk (Below.trod laidOut (by kernel_rfl) (of_decide_eq_true (by kernel_rfl)) k0 bel lt0) trodAll_mk0), rfl, bel.frame _, fun h => by cases h⟩
theorem over : Rows.fnExactFindsAllSwapsRow.holds Try.pinned (OpenSpec.ofChange Rows.fnExactFindsAllSwapsSpec) :=
  OpenClaim.holds_of_wide 6 Try.f6 rfl rfl rfl rfl rfl rfl rfl ⟨rfl, rfl, rfl, rfl, rfl⟩ rfl rfl rfl rfl rfl (by kernel_rfl) Try.func6 (by kernel_rfl)
    (of_decide_eq_true (by kernel_rfl)) (by unfold Func.isWrapper; first | (rw [if_pos (by decide +kernel)]; kernel_rfl) | (rw [if_neg (by decide +kernel)]; exact ⟨rfl, rfl⟩))
    (fun os started H enc _ => lifted os started H enc)
theorem proved : Rows.FnExactFindsAllSwapsSaid := over
#print axioms proved
end Go.Proofs.Ytlkpilmcakeadaa.fnExactFindsAllSwaps
namespace Go.Proofs.Ytlkpilmcakeadaa
theorem fnExactFindsAllSwaps_holds : Rows.FnExactFindsAllSwapsSaid := fnExactFindsAllSwaps.proved
end Go.Proofs.Ytlkpilmcakeadaa

