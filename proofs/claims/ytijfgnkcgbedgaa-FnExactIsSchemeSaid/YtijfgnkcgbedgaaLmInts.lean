import Derived.Test.YtijfgnkcgbedgaaXe
import Derived.Test.YtijfgnkcgbedgaaPxlawsszIntS
import Derived.Test.YtijfgnkcgbedgaaPxlawstoIntS
import Derived.Test.YtijfgnkcgbedgaaPxlawseqIntS
namespace Go.Proofs.Ytijfgnkcgbedgaa
open Go.RowKit Go.Proofs.Ytijfgnkcgbedgaa.P Go.Proofs.YtijfgnkcgbedgaaW.PrintWords
theorem szIntS_eq (l : List Int) (h : l.length ≤ 9223372036854775807) : laws_szIntS.f l 1048576 = some (if l.length ≤ 1048576 then 1048576 - (l.length : Int) else -1) := by
  unfold laws_szIntS.f
  rw [wrap_id (by omega) (by omega)]
  by_cases c : l.length ≤ 1048576
  · rw [if_neg (by omega), if_pos c]
  · rw [if_pos (by omega), if_neg c]
theorem toIntS_l0 (x0 : List Int) (h : x0.length ≤ 1048576) : ∀ (d i : Nat) (x3 : List Int), i + d = x0.length → x3.length = x0.length → x3.take i = x0.take i → Ev (fun k => laws_toIntS.l0 k x0 x3 i) x0
  | 0, i, x3, hi, h3, ht => by
    apply Ev.succ
    simp only [laws_toIntS.l0]
    refine Ev.neg (by omega) (Ev.const ?_)
    have e : i = x0.length := by omega
    rw [e, List.take_of_length_le (by omega), List.take_of_length_le (by omega)] at ht
    rw [ht]
  | d + 1, i, x3, hi, h3, ht => by
    apply Ev.succ
    simp only [laws_toIntS.l0]
    refine Ev.pos (by omega) (Ev.pos (by omega) (Ev.pos (by omega) ?_))
    rw [wrap_id (by omega) (by omega), Int.toNat_natCast, rd_nat x0 i (by omega)]
    have := toIntS_l0 x0 h d (i + 1) (x3.set i x0[i]) (by omega) (by simp [h3]) (by
      rw [List.take_succ_eq_append_getElem (by simp; omega), List.take_succ_eq_append_getElem (by omega), List.take_set_of_le (Nat.le_refl _), ht]
      simp)
    exact_mod_cast this
theorem toIntS_ev (l : List Int) (h : l.length ≤ 1048576) : Ev (fun k => laws_toIntS.f k l) l := by
  unfold laws_toIntS.f
  refine Ev.pos (by omega) (Ev.pos (by omega) ?_)
  exact toIntS_l0 l h l.length 0 _ (by omega) (by simp) (by simp)
theorem eqIntS_l0 (a b : List Int) (h : a.length = b.length) (hl : a.length ≤ 9223372036854775806) : ∀ (d i : Nat), i + d = a.length → Ev (fun k => laws_eqIntS.l0 k a b i) (decide (a.drop i = b.drop i))
  | 0, i, hi => by
    apply Ev.succ
    simp only [laws_eqIntS.l0]
    refine Ev.neg (by omega) (Ev.const ?_)
    rw [List.drop_of_length_le (by omega), List.drop_of_length_le (by omega)]; simp
  | d + 1, i, hi => by
    apply Ev.succ
    simp only [laws_eqIntS.l0]
    refine Ev.pos (by omega) (Ev.pos (by omega) (Ev.pos (by omega) ?_))
    rw [wrap_id (by omega) (by omega), rd_nat a i (by omega), rd_nat b i (by omega), List.drop_eq_getElem_cons (l := a) (by omega), List.drop_eq_getElem_cons (l := b) (by omega)]
    by_cases e : a[i] = b[i]
    · refine Ev.pos e ?_
      have := eqIntS_l0 a b h hl d (i + 1) (by omega)
      simp only [List.cons.injEq, e, true_and]
      exact_mod_cast this
    · refine Ev.neg e (Ev.const ?_)
      rw [decide_eq_false (fun h' => e (List.cons.inj h').1)]
theorem eqIntS_ev (a b : List Int) (hl : a.length ≤ 9223372036854775806) : Ev (fun k => laws_eqIntS.f k a b) (decide (a = b)) := by
  unfold laws_eqIntS.f
  by_cases h : a.length = b.length
  · refine Ev.pos (by omega) ?_
    exact eqIntS_l0 a b h hl a.length 0 (by omega)
  · refine Ev.neg (by omega) (Ev.const ?_)
    have : a ≠ b := fun e => h (by rw [e])
    simp [this]
end Go.Proofs.Ytijfgnkcgbedgaa
