/- Part 3 of 3 of the proof of: FnExactBestGuessCardSaid: the law 'FnExactBestGuess' answers true for every input, and leaves its arguments as they were. The row and its tied card, over the walk of its calls and the pure statement. -/
import Derived.Test.YtbpmgfdjcblhnaaDoorMFnExactBestGuess2
import Derived.Test.YtbpmgfdjcblhnaaDoorMFnExactBestGuess1
import Derived.Test.YtbpmgfdjcblhnaaDoorRows
import Derived.Test.YtbpmgfdjcblhnaaDoorCards
import Derived.Test.YtbpmgfdjcblhnaaDoorTie
import Derived.WalkKit
import Derived.ProofKit
import Derived.OpenShut
import Derived.ShutString
import Derived.ChangeOld
import Derived.Below
import Derived.SizedLaws
import Derived.LaidMore
import Derived.LaidLaws
import Derived.LaidHandle
import Derived.Handed
import Derived.SevenTiedAt
import Derived.Stop.Joined
namespace Go.Proofs.YtbpmgfdjcblhnaaDoor
open Go.RowKit Go.Proofs.YtbpmgfdjcblhnaaDoor.P Go.Proofs.YtbpmgfdjcblhnaaDoorW.PrintWords
set_option linter.unusedSimpArgs false
set_option linter.unusedVariables false
set_option linter.unusedSectionVars false
/-! The pins that fit guesses: both sides go through all digits' texts, in order. -/
abbrev rdIG (l : List IG) (i : Int) : IG := rd_T44 l i
/-- The digits of a number, so many of them. -/
def dg : Nat → Nat → List UInt8
  | 0, _ => []
  | n + 1, x => dg n (x / 10) ++ [UInt8.ofNat (48 + x % 10)]
theorem dg_len : ∀ n x : Nat, (dg n x).length = n
  | 0, _ => rfl
  | n + 1, x => by unfold dg; rw [List.length_append, dg_len n]; rfl
def tx (n x : Nat) : ByteArray := ⟨(dg n x).toArray⟩
theorem bl_tx (n x : Nat) : bl (tx n x) = dg n x := by simp [tx, bl]
theorem tx_size (n x : Nat) : (tx n x).size = n := by rw [bl_len, bl_tx, dg_len]
/-- All texts of so many digits. -/
def allT (n : Nat) : List ByteArray := (List.range (10 ^ n)).map (tx n)
theorem allT_len (n : Nat) : (allT n).length = 10 ^ n := by unfold allT; simp
theorem pow4 {n : Nat} (h : n ≤ 4) : 10 ^ n ≤ 10000 := by
  have : 10 ^ n ≤ 10 ^ 4 := Nat.pow_le_pow_right (by omega) h
  simpa using this
theorem num_bl (a : Nat) : bl (strOfNums ([(wrap64 (48 + Int.tmod (a : Int) 10)) % 256] : List Int)) = [UInt8.ofNat (48 + a % 10)] := by
  rw [bl_nums]
  simp only [List.map_cons, List.map_nil]
  rw [show Int.tmod (a : Int) 10 = ((a % 10 : Nat) : Int) by rw [Int.tmod_eq_emod_of_nonneg (by omega)]; omega, wrap_id (by omega) (by omega), show (48 + ((a % 10 : Nat) : Int)) % 256 = ((48 + a % 10 : Nat) : Int) by omega, Int.toNat_natCast]
theorem piOf_l0 : ∀ (n x : Nat) (out : ByteArray), x ≤ 1000000 → out.size + n ≤ 1000 → Ev (fun k => spec_piOf.l0 k (x : Int) (n : Int) out) (tx n x ++ out)
  | 0, x, out, hx, ho => by
    apply Ev.succ; simp only [spec_piOf.l0]
    refine Ev.neg (by omega) (Ev.const ?_)
    exact congrArg some (bl_inj (by rw [bl_append, bl_tx]; rfl))
  | n + 1, x, out, hx, ho => by
    have hd := num_bl x
    have hs : (strOfNums ([(wrap64 (48 + Int.tmod (x : Int) 10)) % 256] : List Int)).size = 1 := by rw [bl_len, hd]; rfl
    have hz : (strOfNums ([(wrap64 (48 + Int.tmod (x : Int) 10)) % 256] : List Int) ++ out).size = 1 + out.size := by rw [ByteArray.size_append, hs]
    have ih := piOf_l0 n (x / 10) (strOfNums ([(wrap64 (48 + Int.tmod (x : Int) 10)) % 256] : List Int) ++ out) (by omega) (by omega)
    have ht : Int.tmod (x : Int) 10 < 10 := by rw [Int.tmod_eq_emod_of_nonneg (by omega)]; omega
    apply Ev.succ; simp only [spec_piOf.l0]
    refine Ev.pos (by omega) (Ev.bind (a := strOfNums ([(wrap64 (48 + Int.tmod (x : Int) 10)) % 256] : List Int)) ?_ (Ev.pos (by rw [hs]; omega) ?_))
    · apply Ev.succ; simp only [spec_l1Num.f]
      exact Ev.pos ht (Ev.now _)
    · rw [show wrap64 (Int.tdiv (x : Int) 10) = ((x / 10 : Nat) : Int) by rw [Int.tdiv_eq_ediv_of_nonneg (by omega), wrap_id (by omega) (by omega)]; omega, show wrap64 (((n + 1 : Nat) : Int) - 1) = (n : Int) by rw [wrap_id (by omega) (by omega)]; omega]
      have e : tx (n + 1) x ++ out = tx n (x / 10) ++ (strOfNums ([(wrap64 (48 + Int.tmod (x : Int) 10)) % 256] : List Int) ++ out) := bl_inj (by rw [bl_append, bl_append, bl_append, bl_tx, bl_tx, hd, dg]; simp)
      rw [e]
      exact ih
theorem piOf_ev (n x : Nat) (hn : n ≤ 4) (hx : x ≤ 1000000) : Ev (fun k => spec_piOf.f k (x : Int) (n : Int)) (tx n x) := by
  unfold spec_piOf.f
  have h := piOf_l0 n x (⟨#[]⟩ : ByteArray) hx (by show 0 + n ≤ _; omega)
  have e : tx n x ++ (⟨#[]⟩ : ByteArray) = tx n x := bl_inj (by rw [bl_append, bl_empty, List.append_nil])
  rwa [e] at h
/-! All texts. -/
theorem dig_ext (d : Nat) (hd : d < 10) : bl ((⟨#[48, 49, 50, 51, 52, 53, 54, 55, 56, 57]⟩ : ByteArray).extract d (d + 1)) = [UInt8.ofNat (48 + d)] := by
  have : ∀ e : Fin 10, bl ((⟨#[48, 49, 50, 51, 52, 53, 54, 55, 56, 57]⟩ : ByteArray).extract e.val (e.val + 1)) = [UInt8.ofNat (48 + e.val)] := by decide +kernel
  exact this ⟨d, hd⟩
theorem rdS (l : List ByteArray) (j : Nat) (h : j < l.length) : rdOf ByteArray.empty l (j : Int) = l[j] := by unfold rdOf; simp [List.getD, h]
section
variable (n : Nat) (hn : n ≤ 4)
include hn
theorem all_l2 (r : Nat) (hr : r < n) (i : Nat) (hi : i < 10 ^ r) (R : List ByteArray) (hR : Ev (fun k => impl_allTexts.l1 k 10 ((List.range (10 * (i + 1))).map (tx (r + 1))) (n : Int) (r : Int) (allT r) ((10 ^ r : Nat) : Int) ((i + 1 : Nat) : Int)) R) : ∀ (e d : Nat), d + e = 10 →
    Ev (fun k => impl_allTexts.l2 k 10 ((List.range (10 * i + d)).map (tx (r + 1))) (tx r i) (n : Int) (r : Int) (allT r) ((10 ^ r : Nat) : Int) (i : Int) 10 (d : Int)) R
  | 0, d, hd => by
    have hp := pow4 (n := r) (by omega)
    obtain rfl : d = 10 := by omega
    apply Ev.succ; simp only [impl_allTexts.l2]
    refine Ev.neg (by omega) ?_
    rw [show wrap64 ((i : Int) + 1) = ((i + 1 : Nat) : Int) by rw [wrap_id (by omega) (by omega)]; omega, show 10 * i + 10 = 10 * (i + 1) by omega]
    exact hR
  | e + 1, d, hd => by
    have hp := pow4 (n := r) (by omega)
    have ih := all_l2 r hr i hi R hR e (d + 1) (by omega)
    have hx := dig_ext d (by omega)
    have e1 : wrap64 ((d : Int) + 1) = ((d + 1 : Nat) : Int) := by rw [wrap_id (by omega) (by omega)]; omega
    have ht : tx r i ++ (⟨#[48, 49, 50, 51, 52, 53, 54, 55, 56, 57]⟩ : ByteArray).extract d (d + 1) = tx (r + 1) (10 * i + d) := bl_inj (by rw [bl_append, hx, bl_tx, bl_tx, dg, show (10 * i + d) / 10 = i by omega, show (10 * i + d) % 10 = d by omega])
    have hz : (tx r i).size + ((⟨#[48, 49, 50, 51, 52, 53, 54, 55, 56, 57]⟩ : ByteArray).extract d (d + 1)).size ≤ 9223372036854775807 := by rw [tx_size, bl_len (ByteArray.extract _ _ _), hx, List.length_singleton]; omega
    rw [show 10 * i + (d + 1) = 10 * i + d + 1 by omega, List.range_succ, List.map_append, List.map_singleton, ← ht] at ih
    apply Ev.succ; simp only [impl_allTexts.l2, e1, Int.toNat_natCast, List.length_map, List.length_range]
    refine Ev.pos (by omega) (Ev.pos (by omega) (Ev.pos (by omega) (Ev.pos (by omega) (Ev.pos hz (Ev.pos (by omega) ?_)))))
    exact ih
theorem all_l1 (r : Nat) (hr : r < n) (R : List ByteArray) (hR : Ev (fun k => impl_allTexts.l0 k 10 (allT (r + 1)) (n : Int) ((r + 1 : Nat) : Int)) R) : ∀ (e i : Nat), i + e = 10 ^ r →
    Ev (fun k => impl_allTexts.l1 k 10 ((List.range (10 * i)).map (tx (r + 1))) (n : Int) (r : Int) (allT r) ((10 ^ r : Nat) : Int) (i : Int)) R
  | 0, i, hi => by
    apply Ev.succ; simp only [impl_allTexts.l1]
    refine Ev.neg (by omega) ?_
    rw [show wrap64 ((r : Int) + 1) = ((r + 1 : Nat) : Int) by rw [wrap_id (by omega) (by omega)]; omega, show 10 * i = 10 ^ (r + 1) by rw [Nat.pow_succ]; omega]
    exact hR
  | e + 1, i, hi => by
    have hl := all_l2 n hn r hr i (by omega) R (all_l1 r hr R hR e (i + 1) (by omega)) 10 0 (by omega)
    have ha : (allT r).length = 10 ^ r := allT_len r
    apply Ev.succ; simp only [impl_allTexts.l1, ha]
    refine Ev.pos (by omega) (Ev.pos (by omega) (Ev.pos (by omega) ?_))
    rw [rdS _ i (by omega)]
    rw [show (allT r)[i]'(by omega) = tx r i by unfold allT; simp]
    exact hl
theorem all_l0 : ∀ (e r : Nat), r + e = n → Ev (fun k => impl_allTexts.l0 k 10 (allT r) (n : Int) (r : Int)) (allT n)
  | 0, r, hr => by
    apply Ev.succ; simp only [impl_allTexts.l0]
    refine Ev.neg (by omega) (Ev.const ?_)
    rw [show r = n by omega]
  | e + 1, r, hr => by
    have h := all_l1 n hn r (by omega) (allT n) (all_l0 e (r + 1) (by omega)) (10 ^ r) 0 (by omega)
    apply Ev.succ; simp only [impl_allTexts.l0, allT_len]
    exact Ev.pos (by omega) h
theorem allTexts_ev : Ev (fun k => impl_allTexts.f k 10 (n : Int)) (allT n) := by
  unfold impl_allTexts.f
  have h := all_l0 n hn n 0 (by omega)
  have e : allT 0 = [(⟨#[]⟩ : ByteArray)] := by
    unfold allT
    simp only [Nat.pow_zero, List.range_one, List.map_cons, List.map_nil]
    congr 1
  rw [e] at h
  exact h
end
/-- Do all guesses tell of a pin what they tell? -/
def fitB (l : List IG) (pin : ByteArray) : Bool := l.all fun g => decide (hitsP (bl pin) (bl g.f0) = (g.f1, g.f2))
section
variable (l : List IG) (n : Nat) (hn : n ≤ 4) (hl : l.length ≤ 10) (hg : ∀ g ∈ l, (bl g.f0).length = n)
include hn hl hg
theorem left_l2 (acc : List ByteArray) (ha : acc.length ≤ 10000) (x5 : Int) (v : Nat) (hv : v ≤ 10000) (R : List ByteArray) (hR : Ev (fun k => spec_piLeft.l1 k l (if fitB l (tx n v) = true then acc ++ [tx n v] else acc) (n : Int) x5 ((v + 1 : Nat) : Int)) R) :
    ∀ (e i : Nat) (b : Bool), i + e = l.length → ((b && (l.drop i).all fun g => decide (hitsP (bl (tx n v)) (bl g.f0) = (g.f1, g.f2))) = fitB l (tx n v)) → Ev (fun k => spec_piLeft.l2 k l acc (n : Int) x5 (v : Int) (tx n v) b l (l.length : Int) (i : Int)) R
  | 0, i, b, hi, hb => by
    rw [List.drop_of_length_le (by omega), List.all_nil, Bool.and_true] at hb
    rw [← hb] at hR
    apply Ev.succ; simp only [spec_piLeft.l2]
    refine Ev.neg (by omega) ?_
    have ev : wrap64 ((v : Int) + 1) = ((v + 1 : Nat) : Int) := by rw [wrap_id (by omega) (by omega)]; omega
    rw [ev]
    cases b with
    | true => rw [if_pos rfl] at hR; exact Ev.pos rfl (Ev.pos (by omega) hR)
    | false => rw [if_neg (by decide)] at hR; exact Ev.neg (by decide) hR
  | e + 1, i, b, hi, hb => by
    have hlt : i < l.length := by omega
    have e1 : wrap64 ((i : Int) + 1) = ((i + 1 : Nat) : Int) := by rw [wrap_id (by omega) (by omega)]; omega
    rw [List.drop_eq_getElem_cons hlt, List.all_cons] at hb
    have hits := piHits_ev (tx n v) l[i].f0 (by rw [bl_tx, dg_len, hg _ (List.getElem_mem hlt)]) (by rw [bl_tx, dg_len]; exact hn)
    apply Ev.succ; simp only [spec_piLeft.l2]
    refine Ev.pos (by omega) (Ev.pos (by omega) (Ev.pos (by omega) ?_))
    rw [rdI l i hlt, e1]
    generalize hitsP (bl (tx n v)) (bl l[i].f0) = q at hits hb
    cases b with
    | true =>
      refine Ev.pos rfl (Ev.bind hits ?_)
      by_cases c : q.1 = l[i].f1
      · refine Ev.pos c ?_
        refine left_l2 acc ha x5 v hv R hR e (i + 1) _ (by omega) ?_
        rw [← hb, Bool.true_and]
        congr 1
        rw [Bool.eq_iff_iff, decide_eq_true_iff, beq_iff_eq, Prod.ext_iff]
        exact ⟨fun h => ⟨c, h⟩, fun h => h.2⟩
      · refine Ev.neg c ?_
        refine left_l2 acc ha x5 v hv R hR e (i + 1) _ (by omega) ?_
        rw [← hb, decide_eq_false (fun h => c (by rw [h]))]
        rfl
    | false =>
      refine Ev.neg (by decide) ?_
      exact left_l2 acc ha x5 v hv R hR e (i + 1) _ (by omega) (by rw [← hb]; rfl)
theorem left_l1 : ∀ (e v : Nat), v + e = 10 ^ n → Ev (fun k => spec_piLeft.l1 k l (((List.range v).map (tx n)).filter (fitB l)) (n : Int) ((10 ^ n : Nat) : Int) (v : Int)) ((allT n).filter (fitB l))
  | 0, v, hv => by
    apply Ev.succ; simp only [spec_piLeft.l1]
    refine Ev.neg (by omega) (Ev.const ?_)
    rw [show v = 10 ^ n by omega]; rfl
  | e + 1, v, hv => by
    have hp := pow4 hn
    have ih := left_l1 e (v + 1) (by omega)
    have hf : ((List.range (v + 1)).map (tx n)).filter (fitB l) = if fitB l (tx n v) = true then ((List.range v).map (tx n)).filter (fitB l) ++ [tx n v] else ((List.range v).map (tx n)).filter (fitB l) := by
      rw [List.range_succ, List.map_append, List.filter_append]
      cases hh : fitB l (tx n v) <;> simp [hh]
    rw [hf] at ih
    have ha : (((List.range v).map (tx n)).filter (fitB l)).length ≤ 10000 := by
      have := List.length_filter_le (fitB l) ((List.range v).map (tx n))
      rw [List.length_map, List.length_range] at this
      omega
    apply Ev.succ; simp only [spec_piLeft.l1]
    refine Ev.pos (by omega) (Ev.bind (piOf_ev n v hn (by omega)) ?_)
    exact left_l2 l n hn hl hg _ ha _ v (by omega) _ ih l.length 0 true (by omega) (by rw [List.drop_zero, Bool.true_and]; rfl)
theorem left_l0 : ∀ (e i : Nat), i + e = n → Ev (fun k => spec_piLeft.l0 k l (n : Int) ((10 ^ i : Nat) : Int) (i : Int)) ((allT n).filter (fitB l))
  | 0, i, hi => by
    apply Ev.succ; simp only [spec_piLeft.l0]
    refine Ev.neg (by omega) ?_
    obtain rfl : i = n := by omega
    exact left_l1 l i hn hl hg (10 ^ i) 0 (by omega)
  | e + 1, i, hi => by
    have hp := pow4 (n := i) (by omega)
    have ih := left_l0 e (i + 1) (by omega)
    apply Ev.succ; simp only [spec_piLeft.l0]
    refine Ev.pos (by omega) ?_
    have ex : wrap64 (((10 ^ i : Nat) : Int) * 10) = ((10 ^ (i + 1) : Nat) : Int) := by
      rw [Nat.pow_succ]
      generalize 10 ^ i = P at hp
      rw [wrap_id (by omega) (by omega)]; omega
    rw [ex, show wrap64 ((i : Int) + 1) = ((i + 1 : Nat) : Int) by rw [wrap_id (by omega) (by omega)]; omega]
    exact ih
theorem piLeft_ev (h0 : 0 < l.length) (hz : (rd_T44 l 0).f0.size = n) : Ev (fun k => spec_piLeft.f k l) ((allT n).filter (fitB l)) := by
  unfold spec_piLeft.f
  rw [hz]
  exact Ev.pos (by omega) (left_l0 l n hn hl hg n 0 (by omega))
theorem not11_eq (pin : ByteArray) (hp : (bl pin).length = n) (g : IG) (hm : g ∈ l) : impl_pinsLeft_1_1.f g.f0 g.f1 g.f2 pin = some (!decide (hitsP (bl pin) (bl g.f0) = (g.f1, g.f2))) := by
  unfold impl_pinsLeft_1_1.f
  rw [hitsOf_eq pin g.f0 (by rw [hp, hg g hm]) (by omega)]
  generalize hitsP (bl pin) (bl g.f0) = q
  simp only [Option.bind_some]
  by_cases c : q.1 = g.f1
  · rw [if_pos c]
    congr 1
    rw [bne, Bool.eq_iff_iff]
    simp only [Bool.not_eq_true', beq_eq_false_iff_ne, decide_eq_false_iff_not, Prod.ext_iff, not_and, ne_eq]
    exact ⟨fun h _ => h, fun h => h c⟩
  · rw [if_neg c, decide_eq_false (fun h => c (by rw [h]))]; rfl
theorem not1_ev (pin : ByteArray) (hp : (bl pin).length = n) : Ev (fun k => impl_pinsLeft_1.f k pin l) (fitB l pin) := by
  unfold impl_pinsLeft_1.f
  refine Ev.bind (anyG_ev l (by omega) _ (fun g => !decide (hitsP (bl pin) (bl g.f0) = (g.f1, g.f2))) (fun g hm => not11_eq l n hn hl hg pin hp g hm)) (Ev.const ?_)
  congr 1
  unfold fitB
  rw [← List.not_all_eq_any_not, Bool.not_not]
end
theorem ev_list {α β : Type} (F : Nat → α → Option β) (b : α → β) : ∀ xs : List α, (∀ x ∈ xs, Ev (fun k => F k x) (b x)) → ∃ K, ∀ k, K ≤ k → ∀ x ∈ xs, F k x = some (b x)
  | [], _ => ⟨0, fun _ _ _ h => by cases h⟩
  | x :: xs, h => by
    obtain ⟨K1, h1⟩ := h x List.mem_cons_self
    obtain ⟨K2, h2⟩ := ev_list F b xs (fun y hy => h y (List.mem_cons_of_mem _ hy))
    refine ⟨max K1 K2, fun k hk y hy => ?_⟩
    rcases List.mem_cons.1 hy with rfl | hy
    · exact h1 k (by omega)
    · exact h2 k (by omega) y hy
theorem picked_ev (F : Nat → ByteArray → Option Bool) (b : ByteArray → Bool) (xs : List ByteArray) (hl : xs.length ≤ 8796093022208) (h : ∀ x ∈ xs, Ev (fun k => F k x) (b x)) : Ev (fun k => impl_picked.f xs (F k)) (xs.filter b) := by
  obtain ⟨K, hK⟩ := ev_list F b xs h
  refine ⟨K, fun k hk => ?_⟩
  have e := hK k hk
  show impl_picked.f xs (F k) = _
  unfold impl_picked.f
  rw [if_pos ⟨hl, by rw [List.all_eq_true]; intro x hx; rw [e x hx]; rfl⟩]
  congr 1
  exact List.filter_congr fun x hx => by rw [e x hx]; rfl
theorem pinsLeft_ev (l : List IG) (n : Nat) (hn : n ≤ 4) (hl : l.length ≤ 10) (hg : ∀ g ∈ l, (bl g.f0).length = n) (h0 : 0 < l.length) (hz : (rd_T44 l 0).f0.size = n) : Ev (fun k => impl_pinsLeft.f k l) ((allT n).filter (fitB l)) := by
  unfold impl_pinsLeft.f
  rw [hz]
  have hp := pow4 hn
  refine Ev.pos (by omega) (Ev.bind (allTexts_ev n hn) (Ev.bind (picked_ev _ (fitB l) _ (by rw [allT_len]; omega) (fun x hx => ?_)) (Ev.now _)))
  unfold allT at hx
  obtain ⟨v, -, rfl⟩ := List.mem_map.1 hx
  exact not1_ev l n hn hl hg _ (by rw [bl_tx, dg_len])
/-- Both sides, of guesses. -/
theorem left_both (l : List IG) (h : guessesB l = true) : ∃ r, Ev (fun k => spec_piLeft.f k l) r ∧ Ev (fun k => impl_pinsLeft.f k l) r ∧ r.length ≤ 10000 := by
  unfold guessesB at h
  simp only [Bool.and_eq_true, decide_eq_true_eq, List.all_eq_true] at h
  obtain ⟨⟨h1, h2⟩, h3⟩ := h
  have e0 := rdI l 0 (by omega)
  rw [show ((0 : Nat) : Int) = 0 from rfl] at e0
  have hok := h3 _ (List.getElem_mem (show 0 < l.length by omega))
  unfold okG at hok
  simp only [Bool.and_eq_true, decide_eq_true_eq] at hok
  obtain ⟨p1, p2, -⟩ := pinB_len hok.1.1.1
  have hz : (rd_T44 l 0).f0.size = (bl l[0].f0).length := by rw [e0]; rfl
  have hg : ∀ g ∈ l, (bl g.f0).length = (bl l[0].f0).length := by
    intro g hm
    have hk := h3 g hm
    unfold okG at hk
    simp only [Bool.and_eq_true, decide_eq_true_eq] at hk
    have := hk.1.1.2
    rw [hz] at this
    exact this
  refine ⟨_, piLeft_ev l _ p2 h2 hg (by omega) hz, pinsLeft_ev l _ p2 h2 hg (by omega) hz, ?_⟩
  have := List.length_filter_le (fitB l) (allT (bl l[0].f0).length)
  rw [allT_len] at this
  have := pow4 p2
  omega
end Go.Proofs.YtbpmgfdjcblhnaaDoor

namespace Go.Proofs.YtbpmgfdjcblhnaaDoor
open Go.RowKit Go.Proofs.YtbpmgfdjcblhnaaDoor.P Go.Proofs.YtbpmgfdjcblhnaaDoorW.PrintWords
set_option linter.unusedSimpArgs false
set_option linter.unusedVariables false
/-! The most pins that one answer leaves: counted in a map by pairs, or in a row. -/
def sumC (a : List UInt8) : List UInt8 → Nat
  | [] => 0
  | d :: l => a.count d + sumC a l
theorem sumC_nil : ∀ l, sumC [] l = 0
  | [] => rfl
  | d :: l => by unfold sumC; rw [sumC_nil l, List.count_nil]
theorem sumC_cons (x : UInt8) (a : List UInt8) : ∀ l : List UInt8, l.Nodup → sumC (x :: a) l ≤ sumC a l + (if x ∈ l then 1 else 0)
  | [], _ => by simp [sumC]
  | d :: l, h => by
    obtain ⟨h1, h2⟩ := List.nodup_cons.1 h
    have ih := sumC_cons x a l h2
    unfold sumC
    rw [List.count_cons]
    by_cases e : x = d
    · subst e
      rw [if_neg h1] at ih
      simp
      omega
    · have e0 : (x == d) = false := by simpa using e
      rw [e0]
      by_cases m : x ∈ l
      · rw [if_pos m] at ih; rw [if_pos (List.mem_cons_of_mem _ m)]; simp; omega
      · rw [if_neg m] at ih; simp; omega
theorem sumC_le : ∀ (a l : List UInt8), l.Nodup → sumC a l ≤ a.length
  | [], l, _ => by rw [sumC_nil]; exact Nat.zero_le _
  | x :: a, l, h => by
    have ih := sumC_le a l h
    have := sumC_cons x a l h
    rw [List.length_cons]
    split at this <;> omega
theorem bothN_sum (a b : List UInt8) : ∀ l : List UInt8, 0 ≤ bothN a b l ∧ bothN a b l ≤ (sumC a l : Int)
  | [] => by simp [bothN, sumC]
  | d :: l => by
    have ih := bothN_sum a b l
    simp only [bothN, sumC, cb_eq]
    have : 0 ≤ mn (a.count d : Nat) (b.count d : Nat) ∧ mn (a.count d : Nat) (b.count d : Nat) ≤ (a.count d : Int) := by unfold mn; split <;> omega
    omega
theorem bothN_cons (x y : UInt8) (a b : List UInt8) : ∀ l : List UInt8, bothN a b l + (if x = y ∧ x ∈ l then 1 else 0) ≤ bothN (x :: a) (y :: b) l
  | [] => by simp [bothN]
  | d :: l => by
    have ih := bothN_cons x y a b l
    simp only [bothN, cb_eq, List.count_cons]
    have key : mn (a.count d : Nat) (b.count d : Nat) + (if x = y ∧ x = d then 1 else 0) ≤ mn ((a.count d + if (x == d) = true then 1 else 0 : Nat) : Int) ((b.count d + if (y == d) = true then 1 else 0 : Nat) : Int) := by
      by_cases e1 : x = d
      · subst e1
        by_cases e2 : x = y
        · subst e2; simp; unfold mn; split <;> split <;> omega
        · have e3 : (y == x) = false := by simpa using fun h => e2 h.symm
          simp [e2, e3]; unfold mn; split <;> split <;> omega
      · have e4 : (x == d) = false := by simpa using e1
        rw [if_neg (fun h => e1 h.2), e4]
        cases (y == d) <;> simp <;> unfold mn <;> split <;> split <;> omega
    by_cases c1 : x = y ∧ x ∈ l
    · rw [if_pos c1] at ih
      rw [if_pos ⟨c1.1, List.mem_cons_of_mem _ c1.2⟩]
      split at key <;> omega
    · rw [if_neg c1] at ih
      by_cases c2 : x = y ∧ x = d
      · rw [if_pos c2] at key
        split <;> omega
      · rw [if_neg c2] at key
        rw [if_neg (fun h => by
          rcases List.mem_cons.1 h.2 with e | e
          · exact c2 ⟨h.1, e⟩
          · exact c1 ⟨h.1, e⟩)]
        omega
def digL : List UInt8 := [48, 49, 50, 51, 52, 53, 54, 55, 56, 57]
theorem digL_nodup : digL.Nodup := by decide
theorem digL_mem (d : UInt8) (h : isDig d = true) : d ∈ digL := by
  have all : ∀ n : Fin 256, isDig (UInt8.ofNat n.val) = true → UInt8.ofNat n.val ∈ digL := by decide +kernel
  have e := all ⟨d.toNat, d.toNat_lt⟩
  rw [UInt8.ofNat_toNat] at e
  exact e h
theorem hits_both : ∀ a b : List UInt8, (∀ d ∈ a, isDig d = true) → (hitsN a b : Int) ≤ bothN a b digL
  | [], _, _ => by have := (bothN_sum [] (‹List UInt8›) digL).1; simpa [hitsN] using this
  | x :: a, [], _ => by have := (bothN_sum (x :: a) [] digL).1; simpa [hitsN] using this
  | x :: a, y :: b, h => by
    have ih := hits_both a b (fun d hd => h d (List.mem_cons_of_mem _ hd))
    have k := bothN_cons x y a b digL
    simp only [hitsN]
    by_cases e : x = y
    · rw [if_pos ⟨e, digL_mem x (h x List.mem_cons_self)⟩] at k
      rw [if_pos e]
      omega
    · rw [if_neg (fun q => e q.1)] at k
      rw [if_neg e]
      omega
def rngP (p : Int × Int) : Prop := 0 ≤ p.1 ∧ 0 ≤ p.2 ∧ p.1 + p.2 ≤ 4
theorem hitsP_rng (a b : List UInt8) (h4 : a.length ≤ 4) (hd : ∀ d ∈ a, isDig d = true) : rngP (hitsP a b) := by
  have h1 := hits_both a b hd
  have h2 := (bothN_sum a b digL).2
  have h3 := sumC_le a digL digL_nodup
  unfold rngP hitsP
  unfold digL at h1 h2 h3
  refine ⟨by simp only []; omega, by simp only []; omega, ?_⟩
  simp only []
  omega
def idxN (p : Int × Int) : Nat := (p.1 * 5 + p.2).toNat
theorem idxN_inj {p q : Int × Int} (hp : rngP p) (hq : rngP q) (h : idxN p = idxN q) : p = q := by
  unfold rngP at hp hq
  unfold idxN at h
  obtain ⟨a, b⟩ := p
  obtain ⟨c, d⟩ := q
  simp only at hp hq h
  have : a = c ∧ b = d := by omega
  rw [this.1, this.2]
theorem count_idx {p : Int × Int} (hp : rngP p) : ∀ seen : List (Int × Int), (∀ q ∈ seen, rngP q) → (seen.map idxN).count (idxN p) = seen.count p
  | [], _ => rfl
  | q :: seen, h => by
    have ih := count_idx hp seen (fun x hx => h x (List.mem_cons_of_mem _ hx))
    rw [List.map_cons, List.count_cons, List.count_cons, ih]
    congr 1
    by_cases e : q = p
    · subst e; simp
    · have : idxN q ≠ idxN p := fun h' => e (idxN_inj (h q List.mem_cons_self) hp h')
      rw [if_neg (by simpa using this), if_neg (by simpa using e)]
theorem okP_of {p : Int × Int} (h : rngP p) : okP p := by
  unfold rngP at h
  exact ⟨WalkArith.wf_i64 (by omega), WalkArith.wf_i64 (by omega)⟩
/-- The row counts what the map counts. -/
def CntRow (seen : List (Int × Int)) (x : List Int) : Prop := x.length = 25 ∧ ∀ i < 25, x.getD i 0 = ((seen.map idxN).count i : Int)
theorem CntRow.step {seen : List (Int × Int)} {x : List Int} (h : CntRow seen x) (p : Int × Int) (v : Int) (hv : v = ((seen.map idxN).count (idxN p) : Int) + 1) (hi : idxN p < 25) : CntRow (p :: seen) (x.set (idxN p) v) := by
  obtain ⟨h1, h2⟩ := h
  refine ⟨by rw [List.length_set]; exact h1, fun i hi' => ?_⟩
  rw [List.map_cons, List.count_cons, List.getD_eq_getElem?_getD]
  by_cases e : idxN p = i
  · rw [← e, List.getElem?_set_self (by omega), hv]; simp
  · rw [List.getElem?_set_ne e, ← List.getD_eq_getElem?_getD, h2 i hi', if_neg (by simpa using e)]; simp
theorem most_eq (a b : Int) : spec_l1Most.f a b = some (mx a b) := by
  unfold spec_l1Most.f mx
  by_cases h : a < b
  · rw [if_pos h, if_neg (by omega)]
  · rw [if_neg h]
    by_cases h2 : a > b
    · rw [if_pos h2]
    · rw [if_neg h2]; congr 1; omega
theorem most_bd (a : Int) (c i : Nat) (h0 : 0 ≤ a) (h1 : a ≤ i) (h2 : c ≤ i) : 0 ≤ mx a ((c : Int) + 1) ∧ mx a ((c : Int) + 1) ≤ ((i + 1 : Nat) : Int) := by unfold mx; split <;> omega
section
variable (g : ByteArray) (n : Nat) (hn : n ≤ 4) (hg : (bl g).length = n) (L : List ByteArray) (hL : L.length ≤ 10000) (hp : ∀ p ∈ L, (bl p).length = n ∧ ∀ d ∈ bl p, isDig d = true)
include hn hg hL hp
theorem worst_l0 : ∀ (e i : Nat) (seen : List (Int × Int)) (most : Int) (x6 : List Int), i + e = L.length → seen.length = i → (∀ q ∈ seen, rngP q) → CntRow seen x6 → 0 ≤ most → most ≤ i →
    ∃ r : Int, 0 ≤ r ∧ r ≤ L.length ∧ Ev (fun k => spec_piWorst.l0 k g 5 x6 most L (L.length : Int) (i : Int)) r ∧ worstL g (L.drop i) seen most = some r
  | 0, i, seen, most, x6, hi, hs, hr, hx, m0, m1 => by
    refine ⟨most, m0, by omega, ?_, ?_⟩
    · apply Ev.succ; simp only [spec_piWorst.l0]
      exact Ev.neg (by omega) (Ev.now _)
    · rw [List.drop_of_length_le (by omega)]; rfl
  | e + 1, i, seen, most, x6, hi, hs, hr, hx, m0, m1 => by
    have hlt : i < L.length := by omega
    obtain ⟨hl, hd⟩ := hp _ (List.getElem_mem hlt)
    have hh := piHits_ev L[i] g (by omega) (by omega)
    have hh2 := hitsOf_eq L[i] g (by omega) (by omega)
    have hrg := hitsP_rng (bl L[i]) (bl g) (by omega) hd
    generalize hitsP (bl L[i]) (bl g) = p at hh hh2 hrg
    have hrg' := hrg
    unfold rngP at hrg'
    have hc := count_idx hrg seen hr
    have hcl := List.count_le_length (a := p) (l := seen)
    have hw : wrap64 (wrap64 (p.1 * 5) + p.2) = p.1 * 5 + p.2 := by
      rw [wrap_id (n := p.1 * 5) (by omega) (by omega), wrap_id (by omega) (by omega)]
    have hid : (p.1 * 5 + p.2).toNat = idxN p := rfl
    have hlt25 : idxN p < 25 := by unfold idxN; omega
    have hrd : rd x6 (p.1 * 5 + p.2) = (seen.count p : Int) := by
      unfold rd
      rw [hid, hx.2 _ hlt25, hc]
    have hwv : wrap64 ((seen.count p : Int) + 1) = (seen.count p : Int) + 1 := wrap_id (by omega) (by omega)
    have hst := hx.step p ((seen.count p : Int) + 1) (by rw [hc]) hlt25
    have hrd2 : rd (x6.set (idxN p) ((seen.count p : Int) + 1)) (p.1 * 5 + p.2) = (seen.count p : Int) + 1 := by
      unfold rd
      rw [hid, List.getD_eq_getElem?_getD, List.getElem?_set_self (by have := hx.1; omega)]; rfl
    have em := most_eq most ((seen.count p : Int) + 1)
    have mb := most_bd most (seen.count p) i m0 m1 (hs ▸ hcl)
    obtain ⟨r, r0, r1, r2, r3⟩ := worst_l0 e (i + 1) (p :: seen) _ _ (by omega) (by rw [List.length_cons, hs]) (fun q hq => by rcases List.mem_cons.1 hq with rfl | hq; exact hrg; exact hr q hq) hst mb.1 mb.2
    refine ⟨r, r0, r1, ?_, ?_⟩
    · apply Ev.succ; simp only [spec_piWorst.l0]
      refine Ev.pos (by omega) (Ev.pos (by omega) (Ev.pos (by omega) ?_))
      rw [rdS L i hlt]
      refine Ev.bind hh ?_
      rw [hw, hrd, hwv, hid]
      refine Ev.pos (by omega) (Ev.pos (by rw [hx.1]; omega) (Ev.bindc rfl ?_))
      rw [hrd2]
      refine Ev.bindc em ?_
      rw [show wrap64 ((i : Int) + 1) = ((i + 1 : Nat) : Int) by rw [wrap_id (by omega) (by omega)]; omega]
      exact r2
    · rw [List.drop_eq_getElem_cons hlt]
      unfold worstL
      rw [hh2, Option.bind_some, if_pos ⟨okP_of hrg, by omega⟩]
      exact r3
theorem worst_both : ∃ r : Int, 0 ≤ r ∧ r ≤ L.length ∧ Ev (fun k => spec_piWorst.f k L g) r ∧ impl_worst.f L g = some r := by
  obtain ⟨r, r0, r1, r2, r3⟩ := worst_l0 g n hn hg L hL hp L.length 0 [] 0 (List.replicate 25 0) (by omega) rfl (fun q hq => by cases hq) ⟨by simp, fun i hi => by rw [List.getD_eq_getElem?_getD, List.getElem?_replicate, if_pos hi]; rfl⟩ (by omega) (by omega)
  refine ⟨r, r0, r1, ?_, ?_⟩
  · unfold spec_piWorst.f
    exact Ev.pos (by decide) (Ev.pos (by decide) r2)
  · unfold impl_worst.f
    rw [if_pos (by omega)]
    exact r3
end
theorem dg_dig : ∀ (n x : Nat), ∀ d ∈ dg n x, isDig d = true
  | 0, _, d, h => by cases h
  | n + 1, x, d, h => by
    unfold dg at h
    rcases List.mem_append.1 h with h | h
    · exact dg_dig n _ d h
    · rw [List.mem_singleton] at h
      subst h
      have all : ∀ n : Fin 10, isDig (UInt8.ofNat (48 + n.val)) = true := by decide
      exact all ⟨x % 10, Nat.mod_lt _ (by omega)⟩
theorem left_pins (l : List IG) (h : guessesB l = true) : ∃ (L : List ByteArray) (n : Nat), Ev (fun k => spec_piLeft.f k l) L ∧ Ev (fun k => impl_pinsLeft.f k l) L ∧ n ≤ 4 ∧ (rd_T44 l 0).f0.size = n ∧ L.length ≤ 10000 ∧ ∀ p ∈ L, (bl p).length = n ∧ ∀ d ∈ bl p, isDig d = true := by
  unfold guessesB at h
  simp only [Bool.and_eq_true, decide_eq_true_eq, List.all_eq_true] at h
  obtain ⟨⟨h1, h2⟩, h3⟩ := h
  have e0 := rdI l 0 (by omega)
  rw [show ((0 : Nat) : Int) = 0 from rfl] at e0
  have hok := h3 _ (List.getElem_mem (show 0 < l.length by omega))
  unfold okG at hok
  simp only [Bool.and_eq_true, decide_eq_true_eq] at hok
  obtain ⟨p1, p2, -⟩ := pinB_len hok.1.1.1
  have hz : (rd_T44 l 0).f0.size = (bl l[0].f0).length := by rw [e0]; rfl
  have hg : ∀ g ∈ l, (bl g.f0).length = (bl l[0].f0).length := by
    intro g hm
    have hk := h3 g hm
    unfold okG at hk
    simp only [Bool.and_eq_true, decide_eq_true_eq] at hk
    have := hk.1.1.2
    rw [hz] at this
    exact this
  refine ⟨_, _, piLeft_ev l _ p2 h2 hg (by omega) hz, pinsLeft_ev l _ p2 h2 hg (by omega) hz, p2, hz, ?_, fun p hp => ?_⟩
  · have := List.length_filter_le (fitB l) (allT (bl l[0].f0).length)
    rw [allT_len] at this
    have := pow4 p2
    omega
  · have hp' := (List.mem_filter.1 hp).1
    unfold allT at hp'
    obtain ⟨v, -, rfl⟩ := List.mem_map.1 hp'
    rw [bl_tx]
    exact ⟨dg_len _ _, dg_dig _ _⟩
end Go.Proofs.YtbpmgfdjcblhnaaDoor

/- FnExactBestGuess: both sides tell the same guess, that leaves the fewest pins at worst, and the guesses are left as they were: over the functions that the walk computes. -/
namespace Go.Proofs.YtbpmgfdjcblhnaaDoor
open Go.RowKit Go.Proofs.YtbpmgfdjcblhnaaDoor.P Go.Proofs.YtbpmgfdjcblhnaaDoorW.PrintWords
set_option linter.unusedSimpArgs false
set_option linter.unusedVariables false
section
variable (n : Nat) (hn : n ≤ 4) (L : List ByteArray) (hL : L.length ≤ 200) (hp : ∀ p ∈ L, (bl p).length = n ∧ ∀ d ∈ bl p, isDig d = true)
include hn hL hp
/-- From behind the first pin on. -/
theorem best_l0 : ∀ (e i : Nat) (b : ByteArray) (m : Int), i + e = L.length → 0 ≤ m → m ≤ L.length →
    ∃ r : ByteArray × Int × Bool, Ev (fun k => spec_BestGuess.l0 k L b m L (L.length : Int) (i : Int)) r ∧ Ev (fun k => impl_BestGuess.l0 k L b m L (L.length : Int) (i : Int)) r
  | 0, i, b, m, hi, h0, h1 => by
    refine ⟨(b, m, true), ?_, ?_⟩
    · apply Ev.succ; simp only [spec_BestGuess.l0]; exact Ev.neg (by omega) (Ev.now _)
    · apply Ev.succ; simp only [impl_BestGuess.l0]; exact Ev.neg (by omega) (Ev.now _)
  | e + 1, i, b, m, hi, h0, h1 => by
    have hlt : i < L.length := by omega
    obtain ⟨r, r0, r1, r2, r3⟩ := worst_both L[i] n hn (hp _ (List.getElem_mem hlt)).1 L (by omega) hp
    have e1 : wrap64 ((i : Int) + 1) = ((i + 1 : Nat) : Int) := by rw [wrap_id (by omega) (by omega)]; omega
    by_cases c : r < m
    · obtain ⟨q, q1, q2⟩ := best_l0 e (i + 1) L[i] r (by omega) r0 r1
      refine ⟨q, ?_, ?_⟩
      · apply Ev.succ; simp only [spec_BestGuess.l0]
        refine Ev.pos (by omega) (Ev.pos (by omega) (Ev.pos (by omega) ?_))
        rw [rdS L i hlt, e1]
        exact Ev.bind r2 (Ev.pos c q1)
      · apply Ev.succ; simp only [impl_BestGuess.l0]
        refine Ev.pos (by omega) (Ev.pos (by omega) (Ev.pos (by omega) ?_))
        rw [rdS L i hlt, e1]
        exact Ev.bindc r3 (Ev.neg (by omega) (Ev.pos c q2))
    · obtain ⟨q, q1, q2⟩ := best_l0 e (i + 1) b m (by omega) h0 h1
      refine ⟨q, ?_, ?_⟩
      · apply Ev.succ; simp only [spec_BestGuess.l0]
        refine Ev.pos (by omega) (Ev.pos (by omega) (Ev.pos (by omega) ?_))
        rw [rdS L i hlt, e1]
        exact Ev.bind r2 (Ev.neg c q1)
      · apply Ev.succ; simp only [impl_BestGuess.l0]
        refine Ev.pos (by omega) (Ev.pos (by omega) (Ev.pos (by omega) ?_))
        rw [rdS L i hlt, e1]
        exact Ev.bindc r3 (Ev.neg (by omega) (Ev.neg c q2))
theorem best_both (h : 0 < L.length) : ∃ r : ByteArray × Int × Bool, Ev (fun k => spec_BestGuess.l0 k L (⟨#[]⟩ : ByteArray) (wrap64 ((L.length : Int) + 1)) L (L.length : Int) 0) r ∧ Ev (fun k => impl_BestGuess.l0 k L (⟨#[]⟩ : ByteArray) (-1) L (L.length : Int) 0) r := by
  obtain ⟨r, r0, r1, r2, r3⟩ := worst_both L[0] n hn (hp _ (List.getElem_mem h)).1 L (by omega) hp
  obtain ⟨q, q1, q2⟩ := best_l0 n hn L hL hp (L.length - 1) 1 L[0] r (by omega) r0 r1
  have e1 : wrap64 ((0 : Int) + 1) = ((1 : Nat) : Int) := wrap_id (by decide) (by decide)
  have e2 := rdS L 0 h
  rw [show ((0 : Nat) : Int) = 0 from rfl] at e2
  refine ⟨q, ?_, ?_⟩
  · rw [wrap_id (n := (L.length : Int) + 1) (by omega) (by omega)]
    apply Ev.succ; simp only [spec_BestGuess.l0]
    refine Ev.pos (by omega) (Ev.pos (by omega) (Ev.pos (by omega) ?_))
    rw [e2, e1]
    exact Ev.bind r2 (Ev.pos (by omega) q1)
  · apply Ev.succ; simp only [impl_BestGuess.l0]
    refine Ev.pos (by omega) (Ev.pos (by omega) (Ev.pos (by omega) ?_))
    rw [e2, e1]
    exact Ev.bindc r3 (Ev.pos (by omega) q2)
end
theorem bestGuess_both (l : List IG) (hl : l.length ≤ 1048576) (hm : ∀ g ∈ l, g.f0.size ≤ 1048576) : ∃ r : ByteArray × Int × Bool, Ev (fun k => spec_BestGuess.f k l) r ∧ Ev (fun k => impl_BestGuess.f k l) r := by
  unfold spec_BestGuess.f impl_BestGuess.f impl_PinsLeft.f
  have ji : ∀ L : List ByteArray, Ev (fun k => impl_BestGuess.j0 k L true) ((⟨#[]⟩ : ByteArray), 0, false) := by
    intro L
    apply Ev.succ; simp only [impl_BestGuess.j0]; exact Ev.yes (Ev.now _)
  cases h : guessesB l with
  | false => exact ⟨((⟨#[]⟩ : ByteArray), 0, false), Ev.bind (piGuesses_ev l hl hm) (by rw [h]; exact Ev.no (Ev.now _)), Ev.bind (a := (([] : List ByteArray), false)) (Ev.bind (areGuesses_ev l hl hm) (by rw [h]; exact Ev.no (Ev.now _))) (Ev.no (ji _))⟩
  | true =>
    obtain ⟨L, n, h1, h2, h3, h4, h5, h6⟩ := left_pins l h
    by_cases c : (L.length : Int) > 200
    · refine ⟨((⟨#[]⟩ : ByteArray), 0, false), Ev.bind (piGuesses_ev l hl hm) (by rw [h]; exact Ev.yes (Ev.bind h1 (Ev.bindc (l1In_eq _ _ _) (Ev.neg (by simp; omega) (Ev.now _))))), Ev.bind (a := (([] : List ByteArray), false)) (Ev.bind (areGuesses_ev l hl hm) (by rw [h]; exact Ev.yes (Ev.bind h2 (Ev.pos c (Ev.now _))))) (Ev.no (ji _))⟩
    · have hi : Ev (fun k => (impl_AreGuesses.f k l).bind fun t101 => if t101 = true then (impl_pinsLeft.f k l).bind fun t102 => if (t102.length : Int) > 200 then some (([] : List ByteArray), false) else some (t102, true) else some ([], false)) (L, true) := Ev.bind (areGuesses_ev l hl hm) (by rw [h]; exact Ev.yes (Ev.bind h2 (Ev.neg c (Ev.now _))))
      by_cases z : L.length = 0
      · refine ⟨((⟨#[]⟩ : ByteArray), 0, false), Ev.bind (piGuesses_ev l hl hm) (by rw [h]; exact Ev.yes (Ev.bind h1 (Ev.bindc (l1In_eq _ _ _) (Ev.neg (by simp; omega) (Ev.now _))))), Ev.bind hi (Ev.yes ?_)⟩
        have ez : (((L, true) : List ByteArray × Bool).1.length : Int) == 0 := by simp [z]
        simp only [ez]
        exact ji _
      · obtain ⟨q, q1, q2⟩ := best_both n h3 L (by omega) h6 (by omega)
        refine ⟨q, Ev.bind (piGuesses_ev l hl hm) (by rw [h]; exact Ev.yes (Ev.bind h1 (Ev.bindc (l1In_eq _ _ _) (Ev.pos (by simp; omega) q1)))), Ev.bind hi (Ev.yes ?_)⟩
        have ez : ((((L, true) : List ByteArray × Bool).1.length : Int) == 0) = false := by simpa using z
        simp only [ez]
        apply Ev.succ; simp only [impl_BestGuess.j0]
        exact Ev.no q2
theorem pure_FnExactBestGuess : PureFnExactBestGuess := by
  intro l hl
  obtain ⟨r, hr, hb⟩ := szG_ev l hl.1 (fun g hg => (hl.2 g hg).1)
  refine Ev.rounds (g := fun k => laws_FnExactBestGuess.f k l) ?_
  unfold laws_FnExactBestGuess.f
  refine Ev.bind hr ?_
  by_cases c : r < 0
  · exact Ev.pos c (Ev.now _)
  · obtain ⟨h1, h2⟩ := hb c
    have hm := mapG_sz h2
    have hl' : (l.map toG).length ≤ 1048576 := by simpa using h1
    obtain ⟨q, q1, q2⟩ := bestGuess_both _ hl' hm
    refine Ev.neg c (Ev.bind (toG_ev l h1) (Ev.bind q1 (Ev.bind (toG_ev l h1) (Ev.bind q2 (Ev.pos rfl (Ev.pos rfl ?_))))))
    apply Ev.succ
    simp only [laws_FnExactBestGuess.j0]
    exact Ev.neg (by simp) (Ev.bind (toG_ev l h1) (Ev.bind (eqG_ev _ hl') (Ev.pos rfl (Ev.now _))))
end Go.Proofs.YtbpmgfdjcblhnaaDoor

/- FnExactBestGuessCardSaid: the law 'FnExactBestGuess' answers true for every input, and leaves its arguments as they were. The row and its tied card, over the walk of its calls and the pure statement. -/
namespace Go.Proofs.YtbpmgfdjcblhnaaDoor.fnExactBestGuess
open Go.ChangeShapes Go.WideShapes Go.ChangeAt Go.RowKit Go.Proofs.YtbpmgfdjcblhnaaDoor.P Go.Proofs.YtbpmgfdjcblhnaaDoorW.PrintWords
open Go.ChangeMaps (open_string shut_string)
set_option linter.unusedVariables false
theorem own : ownKnob Tryd.prog.godebug = none := by kernel_rfl
theorem laidOut : laidOutB Tryd.prog = true := by kernel_rfl
/-- What the row lists of package-level variables. -/
noncomputable def laidList : List (String × DataW Unit) := [("unicode/utf8.acceptRanges", Rows.laid_unicode_utf8_acceptRanges), ("unicode/utf8.first", Rows.laid_unicode_utf8_first)]
/-- A world that meets it: the settled one, the listed variables laid. -/
noncomputable def laidWorld (os : Os) : World :=
  let w0 := World.holding Tryd.prog os ⟨#[], #[], []⟩
  { w0 with heap := ((w0.heap.modify 2 fun o => match o with | .cells _ t frozen => .cells (litsOf Rows.laid_unicode_utf8_acceptRanges).toArray t frozen | o => o).modify 1 fun o => match o with | .cells _ t frozen => .cells (litsOf Rows.laid_unicode_utf8_first).toArray t frozen | o => o) }
theorem laidWorld_met (os : Os) (args : Array Value) : laidMetH Tryd.prog laidList ((laidWorld os).forCall (fun _ _ => 0) ⟨#[], args, []⟩).memory :=
  laidMetH_of_parts3 (fuel := 8) (laidMet_of_run' 8 (by kernel_rfl) (by kernel_rfl)) (by kernel_rfl) (by kernel_rfl)
set_option maxRecDepth 100000 in
theorem lifted (os : Os) (started : os.Started) (H : Type) (enc : TypeId × Value → H) :
    ReturnsInHanded {} Tryd.checked os 5 .any (fun w args => (Rows.fnExactBestGuessSpec.pre enc Tryd.prog Tryd.f5 [] false w args ∧ laidMetH Tryd.prog laidList w) ∧ sizedMet enc Tryd.prog Tryd.f5 (OpenSpec.ofChange Rows.fnExactBestGuessSpec) false w args)
      (Rows.fnExactBestGuessSpec.post enc Tryd.prog Tryd.f5 false true false false) := by
  refine returnsInHanded_of_change_and (C := Tryd.checked) (X := fun w _ => laidMetH Tryd.prog laidList w) (fun _ _ _ hh h => h.of_heap hh) own started (by kernel_rfl) Tryd.func5
    (ChangeSpec.witness_at (enc := enc) (C := Tryd.checked) (os := os) (X := fun w _ => laidMetH Tryd.prog laidList w) false (laidWorld os) #[.slice none 0 0] 8 rfl (by kernel_rfl) (by kernel_rfl) (by kernel_rfl) (by kernel_rfl) (by kernel_rfl) (laidWorld_met os _)) ?_
  intro W base args ds gs before hval0 hW _ _ hL _
  have hval : ∀ (j : Nat) t v, Tryd.f5.params[j]? = some t → args[j]? = some v → Value.okWide Tryd.prog W .any base t v := hval0
  have hW' := hW
  obtain ⟨p, q, hA0, hV, rfl, hfz, hnd⟩ := hW
  have hA : DataW.TrodAll enc Tryd.prog W 0 (fun _ => true) true Tryd.f5.params.toList args.toList ds p := hA0
  rw [Tryd.params5] at hA hval
  obtain ⟨v0, vs0, d0, ds0, p0, q0, hargs, rfl, rfl, h0, r0⟩ := trodAll_cons hA
  obtain ⟨rfl, rfl, rfl⟩ := trodAll_nil r0
  obtain rfl : args = #[v0] := by cases args; simp_all
  obtain ⟨rfl, rfl⟩ := trodVars_none hV
  have k0 := h0
  have lt0 : ∀ x ∈ p0, x.block < W.heap.size := by obtain ⟨m, hm⟩ := k0; exact DataW.trod_lt m _ _ _ hm
  obtain ⟨a0, len0, cap0, rfl⟩ := okWide_slice Tryd.underlying22 (hval 0 22 v0 rfl rfl)
  obtain ⟨fu0, hf0⟩ := h0
  have hg0 : DataW.trod enc Tryd.prog W 0 (fun _ => true) true fu0 22 [.slice a0 len0 cap0] = some (d0, p0) := by simpa [Value.cells] using hf0
  clear hf0
  obtain ⟨vv0, hvv0⟩ : ∃ v, v = Value.slice a0 len0 cap0 := ⟨_, rfl⟩
  rw [← hvv0] at hg0 hW' k0 ⊢
  obtain ⟨A0, c0, l0, rfl, hc0, hw0, hr0⟩ := read_s41 Tryd.underlying22 hg0
  clear hA0 hval0
  obtain ⟨k, hk⟩ := pure_FnExactBestGuess l0 ⟨hr0.2.1, hw0⟩
  refine (laws_FnExactBestGuess.calls k A0 c0 l0 true W hr0 hc0 hk).mono fun e W' ⟨he, bel0⟩ => ?_
  have bel : Below W.heap.size W W' := bel0
  subst he
  exact ⟨_, rfl, _, _, _, [], _, [], hW', trodAll_mk1 (shut_bool Tryd.underlying4 _), (trodAll_cons_mk (Below.trod laidOut (by kernel_rfl) (of_decide_eq_true (by kernel_rfl)) k0 bel lt0) trodAll_mk0), rfl, bel.frame _, fun h => by cases h⟩
theorem over : Rows.fnExactBestGuessRow.holds Tryd.pinned (OpenSpec.ofChange Rows.fnExactBestGuessSpec) :=
  OpenClaim.holds_of_wide 5 Tryd.f5 rfl rfl rfl rfl rfl rfl rfl ⟨rfl, rfl, rfl, rfl, rfl⟩ rfl rfl rfl rfl rfl (by kernel_rfl) Tryd.func5 (by kernel_rfl)
    (of_decide_eq_true (by kernel_rfl)) (by unfold Func.isWrapper; first | (rw [if_pos (by decide +kernel)]; kernel_rfl) | (rw [if_neg (by decide +kernel)]; exact ⟨rfl, rfl⟩))
    (fun os started H enc _ => lifted os started H enc)
theorem proved : Rows.FnExactBestGuessSaid := over
theorem card : Rows.FnExactBestGuessCardSaid :=
  Claim7.holds_tied_plain_at .later [] [.data, .pinned] true (true, "19b8eea53550b246e59ea1413b1f8b315f28dd9b6c371207d0244ce6d20b1946") false
    proved (fun _ h => by cases h) (by kernel_rfl) (fun _ h => by cases h) fnExactBestGuess_row_tie rfl ⟨rfl, rfl⟩ (by kernel_rfl) rfl
    (fun f fn hf hfn => by
      obtain rfl : f = 5 := Option.some.inj ((show Tryd.prog.funcNamed "loop.example/g01350/laws.FnExactBestGuess" = some 5 by kernel_rfl).symm.trans hf) |>.symm
      obtain rfl : fn = Tryd.f5 := (Option.some.inj (Tryd.func5.symm.trans hfn)).symm
      exact ⟨by kernel_rfl, fun j t ht => by
        rw [Tryd.params5] at ht
        have hm : t ∈ #[22] := Array.mem_of_getElem? ht
        have hm : t ∈ [22] := by simpa using hm
        have hall : ([22].all fun u => !Tryd.prog.wantsStandIn u) = true := by kernel_rfl
        exact (show Tryd.prog.wantsStandIn t = false by simpa using List.all_eq_true.1 hall t hm)⟩)
    (by kernel_rfl)
#print axioms card
end Go.Proofs.YtbpmgfdjcblhnaaDoor.fnExactBestGuess
namespace Go.Proofs.YtbpmgfdjcblhnaaDoor
theorem fnExactBestGuess_holds : Rows.FnExactBestGuessCardSaid := fnExactBestGuess.card
end Go.Proofs.YtbpmgfdjcblhnaaDoor

