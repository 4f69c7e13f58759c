/- Part 3 of 3 of the proof of: FnExactWorstLeftCardSaid: the law 'FnExactWorstLeft' answers true for every input, and leaves its arguments as they were. The row and its tied card, over the walk of its calls and the pure statement. -/
import Derived.Test.YtbpmgfdjcblhnaaDoorMFnExactWorstLeft2
import Derived.Test.YtbpmgfdjcblhnaaDoorMFnExactWorstLeft1
import Derived.Test.YtbpmgfdjcblhnaaDoorRows
import Derived.Test.YtbpmgfdjcblhnaaDoorCards
import Derived.Test.YtbpmgfdjcblhnaaDoorTie
import Derived.WalkKit
import Derived.ProofKit
import Derived.OpenShut
import Derived.ShutString
import Derived.ChangeOld
import Derived.Below
import Derived.SizedLaws
import Derived.LaidMore
import Derived.LaidLaws
import Derived.LaidHandle
import Derived.Handed
import Derived.SevenTiedAt
import Derived.Stop.Joined
namespace Go.Proofs.YtbpmgfdjcblhnaaDoor
open Go.RowKit Go.Proofs.YtbpmgfdjcblhnaaDoor.P Go.Proofs.YtbpmgfdjcblhnaaDoorW.PrintWords
set_option linter.unusedSimpArgs false
set_option linter.unusedVariables false
/-! The most pins that one answer leaves: counted in a map by pairs, or in a row. -/
def sumC (a : List UInt8) : List UInt8 → Nat
  | [] => 0
  | d :: l => a.count d + sumC a l
theorem sumC_nil : ∀ l, sumC [] l = 0
  | [] => rfl
  | d :: l => by unfold sumC; rw [sumC_nil l, List.count_nil]
theorem sumC_cons (x : UInt8) (a : List UInt8) : ∀ l : List UInt8, l.Nodup → sumC (x :: a) l ≤ sumC a l + (if x ∈ l then 1 else 0)
  | [], _ => by simp [sumC]
  | d :: l, h => by
    obtain ⟨h1, h2⟩ := List.nodup_cons.1 h
    have ih := sumC_cons x a l h2
    unfold sumC
    rw [List.count_cons]
    by_cases e : x = d
    · subst e
      rw [if_neg h1] at ih
      simp
      omega
    · have e0 : (x == d) = false := by simpa using e
      rw [e0]
      by_cases m : x ∈ l
      · rw [if_pos m] at ih; rw [if_pos (List.mem_cons_of_mem _ m)]; simp; omega
      · rw [if_neg m] at ih; simp; omega
theorem sumC_le : ∀ (a l : List UInt8), l.Nodup → sumC a l ≤ a.length
  | [], l, _ => by rw [sumC_nil]; exact Nat.zero_le _
  | x :: a, l, h => by
    have ih := sumC_le a l h
    have := sumC_cons x a l h
    rw [List.length_cons]
    split at this <;> omega
theorem bothN_sum (a b : List UInt8) : ∀ l : List UInt8, 0 ≤ bothN a b l ∧ bothN a b l ≤ (sumC a l : Int)
  | [] => by simp [bothN, sumC]
  | d :: l => by
    have ih := bothN_sum a b l
    simp only [bothN, sumC, cb_eq]
    have : 0 ≤ mn (a.count d : Nat) (b.count d : Nat) ∧ mn (a.count d : Nat) (b.count d : Nat) ≤ (a.count d : Int) := by unfold mn; split <;> omega
    omega
theorem bothN_cons (x y : UInt8) (a b : List UInt8) : ∀ l : List UInt8, bothN a b l + (if x = y ∧ x ∈ l then 1 else 0) ≤ bothN (x :: a) (y :: b) l
  | [] => by simp [bothN]
  | d :: l => by
    have ih := bothN_cons x y a b l
    simp only [bothN, cb_eq, List.count_cons]
    have key : mn (a.count d : Nat) (b.count d : Nat) + (if x = y ∧ x = d then 1 else 0) ≤ mn ((a.count d + if (x == d) = true then 1 else 0 : Nat) : Int) ((b.count d + if (y == d) = true then 1 else 0 : Nat) : Int) := by
      by_cases e1 : x = d
      · subst e1
        by_cases e2 : x = y
        · subst e2; simp; unfold mn; split <;> split <;> omega
        · have e3 : (y == x) = false := by simpa using fun h => e2 h.symm
          simp [e2, e3]; unfold mn; split <;> split <;> omega
      · have e4 : (x == d) = false := by simpa using e1
        rw [if_neg (fun h => e1 h.2), e4]
        cases (y == d) <;> simp <;> unfold mn <;> split <;> split <;> omega
    by_cases c1 : x = y ∧ x ∈ l
    · rw [if_pos c1] at ih
      rw [if_pos ⟨c1.1, List.mem_cons_of_mem _ c1.2⟩]
      split at key <;> omega
    · rw [if_neg c1] at ih
      by_cases c2 : x = y ∧ x = d
      · rw [if_pos c2] at key
        split <;> omega
      · rw [if_neg c2] at key
        rw [if_neg (fun h => by
          rcases List.mem_cons.1 h.2 with e | e
          · exact c2 ⟨h.1, e⟩
          · exact c1 ⟨h.1, e⟩)]
        omega
def digL : List UInt8 := [48, 49, 50, 51, 52, 53, 54, 55, 56, 57]
theorem digL_nodup : digL.Nodup := by decide
theorem digL_mem (d : UInt8) (h : isDig d = true) : d ∈ digL := by
  have all : ∀ n : Fin 256, isDig (UInt8.ofNat n.val) = true → UInt8.ofNat n.val ∈ digL := by decide +kernel
  have e := all ⟨d.toNat, d.toNat_lt⟩
  rw [UInt8.ofNat_toNat] at e
  exact e h
theorem hits_both : ∀ a b : List UInt8, (∀ d ∈ a, isDig d = true) → (hitsN a b : Int) ≤ bothN a b digL
  | [], _, _ => by have := (bothN_sum [] (‹List UInt8›) digL).1; simpa [hitsN] using this
  | x :: a, [], _ => by have := (bothN_sum (x :: a) [] digL).1; simpa [hitsN] using this
  | x :: a, y :: b, h => by
    have ih := hits_both a b (fun d hd => h d (List.mem_cons_of_mem _ hd))
    have k := bothN_cons x y a b digL
    simp only [hitsN]
    by_cases e : x = y
    · rw [if_pos ⟨e, digL_mem x (h x List.mem_cons_self)⟩] at k
      rw [if_pos e]
      omega
    · rw [if_neg (fun q => e q.1)] at k
      rw [if_neg e]
      omega
def rngP (p : Int × Int) : Prop := 0 ≤ p.1 ∧ 0 ≤ p.2 ∧ p.1 + p.2 ≤ 4
theorem hitsP_rng (a b : List UInt8) (h4 : a.length ≤ 4) (hd : ∀ d ∈ a, isDig d = true) : rngP (hitsP a b) := by
  have h1 := hits_both a b hd
  have h2 := (bothN_sum a b digL).2
  have h3 := sumC_le a digL digL_nodup
  unfold rngP hitsP
  unfold digL at h1 h2 h3
  refine ⟨by simp only []; omega, by simp only []; omega, ?_⟩
  simp only []
  omega
def idxN (p : Int × Int) : Nat := (p.1 * 5 + p.2).toNat
theorem idxN_inj {p q : Int × Int} (hp : rngP p) (hq : rngP q) (h : idxN p = idxN q) : p = q := by
  unfold rngP at hp hq
  unfold idxN at h
  obtain ⟨a, b⟩ := p
  obtain ⟨c, d⟩ := q
  simp only at hp hq h
  have : a = c ∧ b = d := by omega
  rw [this.1, this.2]
theorem count_idx {p : Int × Int} (hp : rngP p) : ∀ seen : List (Int × Int), (∀ q ∈ seen, rngP q) → (seen.map idxN).count (idxN p) = seen.count p
  | [], _ => rfl
  | q :: seen, h => by
    have ih := count_idx hp seen (fun x hx => h x (List.mem_cons_of_mem _ hx))
    rw [List.map_cons, List.count_cons, List.count_cons, ih]
    congr 1
    by_cases e : q = p
    · subst e; simp
    · have : idxN q ≠ idxN p := fun h' => e (idxN_inj (h q List.mem_cons_self) hp h')
      rw [if_neg (by simpa using this), if_neg (by simpa using e)]
theorem okP_of {p : Int × Int} (h : rngP p) : okP p := by
  unfold rngP at h
  exact ⟨WalkArith.wf_i64 (by omega), WalkArith.wf_i64 (by omega)⟩
/-- The row counts what the map counts. -/
def CntRow (seen : List (Int × Int)) (x : List Int) : Prop := x.length = 25 ∧ ∀ i < 25, x.getD i 0 = ((seen.map idxN).count i : Int)
theorem CntRow.step {seen : List (Int × Int)} {x : List Int} (h : CntRow seen x) (p : Int × Int) (v : Int) (hv : v = ((seen.map idxN).count (idxN p) : Int) + 1) (hi : idxN p < 25) : CntRow (p :: seen) (x.set (idxN p) v) := by
  obtain ⟨h1, h2⟩ := h
  refine ⟨by rw [List.length_set]; exact h1, fun i hi' => ?_⟩
  rw [List.map_cons, List.count_cons, List.getD_eq_getElem?_getD]
  by_cases e : idxN p = i
  · rw [← e, List.getElem?_set_self (by omega), hv]; simp
  · rw [List.getElem?_set_ne e, ← List.getD_eq_getElem?_getD, h2 i hi', if_neg (by simpa using e)]; simp
theorem most_eq (a b : Int) : spec_l1Most.f a b = some (mx a b) := by
  unfold spec_l1Most.f mx
  by_cases h : a < b
  · rw [if_pos h, if_neg (by omega)]
  · rw [if_neg h]
    by_cases h2 : a > b
    · rw [if_pos h2]
    · rw [if_neg h2]; congr 1; omega
theorem most_bd (a : Int) (c i : Nat) (h0 : 0 ≤ a) (h1 : a ≤ i) (h2 : c ≤ i) : 0 ≤ mx a ((c : Int) + 1) ∧ mx a ((c : Int) + 1) ≤ ((i + 1 : Nat) : Int) := by unfold mx; split <;> omega
section
variable (g : ByteArray) (n : Nat) (hn : n ≤ 4) (hg : (bl g).length = n) (L : List ByteArray) (hL : L.length ≤ 10000) (hp : ∀ p ∈ L, (bl p).length = n ∧ ∀ d ∈ bl p, isDig d = true)
include hn hg hL hp
theorem worst_l0 : ∀ (e i : Nat) (seen : List (Int × Int)) (most : Int) (x6 : List Int), i + e = L.length → seen.length = i → (∀ q ∈ seen, rngP q) → CntRow seen x6 → 0 ≤ most → most ≤ i →
    ∃ r : Int, 0 ≤ r ∧ r ≤ L.length ∧ Ev (fun k => spec_piWorst.l0 k g 5 x6 most L (L.length : Int) (i : Int)) r ∧ worstL g (L.drop i) seen most = some r
  | 0, i, seen, most, x6, hi, hs, hr, hx, m0, m1 => by
    refine ⟨most, m0, by omega, ?_, ?_⟩
    · apply Ev.succ; simp only [spec_piWorst.l0]
      exact Ev.neg (by omega) (Ev.now _)
    · rw [List.drop_of_length_le (by omega)]; rfl
  | e + 1, i, seen, most, x6, hi, hs, hr, hx, m0, m1 => by
    have hlt : i < L.length := by omega
    obtain ⟨hl, hd⟩ := hp _ (List.getElem_mem hlt)
    have hh := piHits_ev L[i] g (by omega) (by omega)
    have hh2 := hitsOf_eq L[i] g (by omega) (by omega)
    have hrg := hitsP_rng (bl L[i]) (bl g) (by omega) hd
    generalize hitsP (bl L[i]) (bl g) = p at hh hh2 hrg
    have hrg' := hrg
    unfold rngP at hrg'
    have hc := count_idx hrg seen hr
    have hcl := List.count_le_length (a := p) (l := seen)
    have hw : wrap64 (wrap64 (p.1 * 5) + p.2) = p.1 * 5 + p.2 := by
      rw [wrap_id (n := p.1 * 5) (by omega) (by omega), wrap_id (by omega) (by omega)]
    have hid : (p.1 * 5 + p.2).toNat = idxN p := rfl
    have hlt25 : idxN p < 25 := by unfold idxN; omega
    have hrd : rd x6 (p.1 * 5 + p.2) = (seen.count p : Int) := by
      unfold rd
      rw [hid, hx.2 _ hlt25, hc]
    have hwv : wrap64 ((seen.count p : Int) + 1) = (seen.count p : Int) + 1 := wrap_id (by omega) (by omega)
    have hst := hx.step p ((seen.count p : Int) + 1) (by rw [hc]) hlt25
    have hrd2 : rd (x6.set (idxN p) ((seen.count p : Int) + 1)) (p.1 * 5 + p.2) = (seen.count p : Int) + 1 := by
      unfold rd
      rw [hid, List.getD_eq_getElem?_getD, List.getElem?_set_self (by have := hx.1; omega)]; rfl
    have em := most_eq most ((seen.count p : Int) + 1)
    have mb := most_bd most (seen.count p) i m0 m1 (hs ▸ hcl)
    obtain ⟨r, r0, r1, r2, r3⟩ := worst_l0 e (i + 1) (p :: seen) _ _ (by omega) (by rw [List.length_cons, hs]) (fun q hq => by rcases List.mem_cons.1 hq with rfl | hq; exact hrg; exact hr q hq) hst mb.1 mb.2
    refine ⟨r, r0, r1, ?_, ?_⟩
    · apply Ev.succ; simp only [spec_piWorst.l0]
      refine Ev.pos (by omega) (Ev.pos (by omega) (Ev.pos (by omega) ?_))
      rw [rdS L i hlt]
      refine Ev.bind hh ?_
      rw [hw, hrd, hwv, hid]
      refine Ev.pos (by omega) (Ev.pos (by rw [hx.1]; omega) (Ev.bindc rfl ?_))
      rw [hrd2]
      refine Ev.bindc em ?_
      rw [show wrap64 ((i : Int) + 1) = ((i + 1 : Nat) : Int) by rw [wrap_id (by omega) (by omega)]; omega]
      exact r2
    · rw [List.drop_eq_getElem_cons hlt]
      unfold worstL
      rw [hh2, Option.bind_some, if_pos ⟨okP_of hrg, by omega⟩]
      exact r3
theorem worst_both : ∃ r : Int, 0 ≤ r ∧ r ≤ L.length ∧ Ev (fun k => spec_piWorst.f k L g) r ∧ impl_worst.f L g = some r := by
  obtain ⟨r, r0, r1, r2, r3⟩ := worst_l0 g n hn hg L hL hp L.length 0 [] 0 (List.replicate 25 0) (by omega) rfl (fun q hq => by cases hq) ⟨by simp, fun i hi => by rw [List.getD_eq_getElem?_getD, List.getElem?_replicate, if_pos hi]; rfl⟩ (by omega) (by omega)
  refine ⟨r, r0, r1, ?_, ?_⟩
  · unfold spec_piWorst.f
    exact Ev.pos (by decide) (Ev.pos (by decide) r2)
  · unfold impl_worst.f
    rw [if_pos (by omega)]
    exact r3
end
theorem dg_dig : ∀ (n x : Nat), ∀ d ∈ dg n x, isDig d = true
  | 0, _, d, h => by cases h
  | n + 1, x, d, h => by
    unfold dg at h
    rcases List.mem_append.1 h with h | h
    · exact dg_dig n _ d h
    · rw [List.mem_singleton] at h
      subst h
      have all : ∀ n : Fin 10, isDig (UInt8.ofNat (48 + n.val)) = true := by decide
      exact all ⟨x % 10, Nat.mod_lt _ (by omega)⟩
theorem left_pins (l : List IG) (h : guessesB l = true) : ∃ (L : List ByteArray) (n : Nat), Ev (fun k => spec_piLeft.f k l) L ∧ Ev (fun k => impl_pinsLeft.f k l) L ∧ n ≤ 4 ∧ (rd_T44 l 0).f0.size = n ∧ L.length ≤ 10000 ∧ ∀ p ∈ L, (bl p).length = n ∧ ∀ d ∈ bl p, isDig d = true := by
  unfold guessesB at h
  simp only [Bool.and_eq_true, decide_eq_true_eq, List.all_eq_true] at h
  obtain ⟨⟨h1, h2⟩, h3⟩ := h
  have e0 := rdI l 0 (by omega)
  rw [show ((0 : Nat) : Int) = 0 from rfl] at e0
  have hok := h3 _ (List.getElem_mem (show 0 < l.length by omega))
  unfold okG at hok
  simp only [Bool.and_eq_true, decide_eq_true_eq] at hok
  obtain ⟨p1, p2, -⟩ := pinB_len hok.1.1.1
  have hz : (rd_T44 l 0).f0.size = (bl l[0].f0).length := by rw [e0]; rfl
  have hg : ∀ g ∈ l, (bl g.f0).length = (bl l[0].f0).length := by
    intro g hm
    have hk := h3 g hm
    unfold okG at hk
    simp only [Bool.and_eq_true, decide_eq_true_eq] at hk
    have := hk.1.1.2
    rw [hz] at this
    exact this
  refine ⟨_, _, piLeft_ev l _ p2 h2 hg (by omega) hz, pinsLeft_ev l _ p2 h2 hg (by omega) hz, p2, hz, ?_, fun p hp => ?_⟩
  · have := List.length_filter_le (fitB l) (allT (bl l[0].f0).length)
    rw [allT_len] at this
    have := pow4 p2
    omega
  · have hp' := (List.mem_filter.1 hp).1
    unfold allT at hp'
    obtain ⟨v, -, rfl⟩ := List.mem_map.1 hp'
    rw [bl_tx]
    exact ⟨dg_len _ _, dg_dig _ _⟩
end Go.Proofs.YtbpmgfdjcblhnaaDoor

/- FnExactWorstLeft: both sides tell the same greatest number of pins that one answer leaves, and the guesses are left as they were: over the functions that the walk computes. -/
namespace Go.Proofs.YtbpmgfdjcblhnaaDoor
open Go.RowKit Go.Proofs.YtbpmgfdjcblhnaaDoor.P Go.Proofs.YtbpmgfdjcblhnaaDoorW.PrintWords
set_option linter.unusedSimpArgs false
set_option linter.unusedVariables false
theorem worstLeft_both (l : List IG) (hl : l.length ≤ 1048576) (hm : ∀ g ∈ l, g.f0.size ≤ 1048576) (a : ByteArray) (ha : a.size ≤ 1048576) : ∃ r : Int × Bool, Ev (fun k => spec_WorstLeft.f k l a) r ∧ Ev (fun k => impl_WorstLeft.f k l a) r := by
  unfold spec_WorstLeft.f impl_WorstLeft.f
  have hp := isPin_eq a (by omega)
  have js : Ev (fun k => spec_WorstLeft.j0 k l a true) (0, false) := by
    apply Ev.succ; simp only [spec_WorstLeft.j0]; exact Ev.yes (Ev.now _)
  have ji : Ev (fun k => impl_WorstLeft.j0 k l a true) (0, false) := by
    apply Ev.succ; simp only [impl_WorstLeft.j0]; exact Ev.yes (Ev.now _)
  cases h : guessesB l with
  | false => exact ⟨(0, false), Ev.bind (piGuesses_ev l hl hm) (by rw [h]; exact Ev.neg (by decide) js), Ev.bind (areGuesses_ev l hl hm) (by rw [h]; exact Ev.neg (by decide) ji)⟩
  | true =>
    cases pb : pinB (bl a) with
    | false => exact ⟨(0, false), Ev.bind (piGuesses_ev l hl hm) (by rw [h]; exact Ev.pos rfl (Ev.bind (piPin_ev a) (by rw [pb]; exact Ev.neg (by decide) js))), Ev.bind (areGuesses_ev l hl hm) (by rw [h]; exact Ev.pos rfl (Ev.bindc hp (by rw [pb]; exact Ev.neg (by decide) ji)))⟩
    | true =>
      have h0 : 0 < (l.length : Int) := by
        unfold guessesB at h
        simp only [Bool.and_eq_true, decide_eq_true_eq] at h
        omega
      by_cases e : (a.size : Int) = ((rdIG l 0).f0.size : Int)
      · obtain ⟨L, n, h1, h2, h3, h4, h5, h6⟩ := left_pins l h
        obtain ⟨r, r0, r1, r2, r3⟩ := worst_both a n h3 (by rw [← bl_len, ← h4]; exact_mod_cast e) L h5 h6
        have ee : ((a.size : Int) != ((rdIG l 0).f0.size : Int)) = false := by simpa using e
        have ks : Ev (fun n => spec_WorstLeft.j0 n l a ((a.size : Int) != ((rdIG l 0).f0.size : Int))) (r, true) := by
          rw [ee]
          apply Ev.succ; simp only [spec_WorstLeft.j0]
          exact Ev.no (Ev.bind h1 (Ev.bind r2 (Ev.now _)))
        have ki : Ev (fun n => impl_WorstLeft.j0 n l a ((a.size : Int) != ((rdIG l 0).f0.size : Int))) (r, true) := by
          rw [ee]
          apply Ev.succ; simp only [impl_WorstLeft.j0]
          exact Ev.no (Ev.bind h2 (Ev.bindc r3 (Ev.now _)))
        exact ⟨(r, true), Ev.bind (piGuesses_ev l hl hm) (by rw [h]; exact Ev.pos rfl (Ev.bind (piPin_ev a) (by rw [pb]; exact Ev.pos rfl (Ev.pos h0 ks)))), Ev.bind (areGuesses_ev l hl hm) (by rw [h]; exact Ev.pos rfl (Ev.bindc hp (by rw [pb]; exact Ev.pos rfl (Ev.pos h0 ki))))⟩
      · have en : ((a.size : Int) != ((rdIG l 0).f0.size : Int)) = true := by simpa using e
        exact ⟨(0, false), Ev.bind (piGuesses_ev l hl hm) (by rw [h]; exact Ev.pos rfl (Ev.bind (piPin_ev a) (by rw [pb]; exact Ev.pos rfl (Ev.pos h0 (by rw [en]; exact js))))), Ev.bind (areGuesses_ev l hl hm) (by rw [h]; exact Ev.pos rfl (Ev.bindc hp (by rw [pb]; exact Ev.pos rfl (Ev.pos h0 (by rw [en]; exact ji)))))⟩
theorem pure_FnExactWorstLeft : PureFnExactWorstLeft := by
  intro l a hl ha
  obtain ⟨r, hr, hb⟩ := szG_ev l hl.1 (fun g hg => (hl.2 g hg).1)
  refine Ev.rounds (g := fun k => laws_FnExactWorstLeft.f k l a) ?_
  unfold laws_FnExactWorstLeft.f
  rcases Nat.lt_or_ge 1048576 a.size with c0 | c0
  · exact Ev.pos (by omega) (Ev.now _)
  refine Ev.neg (by omega) (Ev.bind hr ?_)
  by_cases c : r < 0
  · exact Ev.pos c (Ev.now _)
  · obtain ⟨h1, h2⟩ := hb c
    have hm := mapG_sz h2
    have hl' : (l.map toG).length ≤ 1048576 := by simpa using h1
    obtain ⟨q, q1, q2⟩ := worstLeft_both _ hl' hm a c0
    refine Ev.neg c (Ev.bind (toG_ev l h1) (Ev.bind q1 (Ev.bind (toG_ev l h1) (Ev.bind q2 (Ev.pos rfl ?_)))))
    apply Ev.succ
    simp only [laws_FnExactWorstLeft.j0]
    exact Ev.neg (by simp) (Ev.bind (toG_ev l h1) (Ev.bind (eqG_ev _ hl') (Ev.pos rfl (Ev.now _))))
end Go.Proofs.YtbpmgfdjcblhnaaDoor

/- FnExactWorstLeftCardSaid: the law 'FnExactWorstLeft' answers true for every input, and leaves its arguments as they were. The row and its tied card, over the walk of its calls and the pure statement. -/
namespace Go.Proofs.YtbpmgfdjcblhnaaDoor.fnExactWorstLeft
open Go.ChangeShapes Go.WideShapes Go.ChangeAt Go.RowKit Go.Proofs.YtbpmgfdjcblhnaaDoor.P Go.Proofs.YtbpmgfdjcblhnaaDoorW.PrintWords
open Go.ChangeMaps (open_string shut_string)
set_option linter.unusedVariables false
theorem own : ownKnob Tryd.prog.godebug = none := by kernel_rfl
theorem laidOut : laidOutB Tryd.prog = true := by kernel_rfl
/-- What the row lists of package-level variables. -/
noncomputable def laidList : List (String × DataW Unit) := [("unicode/utf8.acceptRanges", Rows.laid_unicode_utf8_acceptRanges), ("unicode/utf8.first", Rows.laid_unicode_utf8_first)]
/-- A world that meets it: the settled one, the listed variables laid. -/
noncomputable def laidWorld (os : Os) : World :=
  let w0 := World.holding Tryd.prog os ⟨#[], #[], []⟩
  { w0 with heap := ((w0.heap.modify 2 fun o => match o with | .cells _ t frozen => .cells (litsOf Rows.laid_unicode_utf8_acceptRanges).toArray t frozen | o => o).modify 1 fun o => match o with | .cells _ t frozen => .cells (litsOf Rows.laid_unicode_utf8_first).toArray t frozen | o => o) }
theorem laidWorld_met (os : Os) (args : Array Value) : laidMetH Tryd.prog laidList ((laidWorld os).forCall (fun _ _ => 0) ⟨#[], args, []⟩).memory :=
  laidMetH_of_parts3 (fuel := 8) (laidMet_of_run' 8 (by kernel_rfl) (by kernel_rfl)) (by kernel_rfl) (by kernel_rfl)
set_option maxRecDepth 100000 in
theorem lifted (os : Os) (started : os.Started) (H : Type) (enc : TypeId × Value → H) :
    ReturnsInHanded {} Tryd.checked os 4 .any (fun w args => (Rows.fnExactWorstLeftSpec.pre enc Tryd.prog Tryd.f4 [] false w args ∧ laidMetH Tryd.prog laidList w) ∧ sizedMet enc Tryd.prog Tryd.f4 (OpenSpec.ofChange Rows.fnExactWorstLeftSpec) false w args)
      (Rows.fnExactWorstLeftSpec.post enc Tryd.prog Tryd.f4 false true false false) := by
  refine returnsInHanded_of_change_and (C := Tryd.checked) (X := fun w _ => laidMetH Tryd.prog laidList w) (fun _ _ _ hh h => h.of_heap hh) own started (by kernel_rfl) Tryd.func4
    (ChangeSpec.witness_at (enc := enc) (C := Tryd.checked) (os := os) (X := fun w _ => laidMetH Tryd.prog laidList w) false (laidWorld os) #[.slice none 0 0, .string ByteArray.empty] 8 rfl (by kernel_rfl) (by kernel_rfl) (by kernel_rfl) (by kernel_rfl) (by kernel_rfl) (laidWorld_met os _)) ?_
  intro W base args ds gs before hval0 hW _ _ hL _
  have hval : ∀ (j : Nat) t v, Tryd.f4.params[j]? = some t → args[j]? = some v → Value.okWide Tryd.prog W .any base t v := hval0
  have hW' := hW
  obtain ⟨p, q, hA0, hV, rfl, hfz, hnd⟩ := hW
  have hA : DataW.TrodAll enc Tryd.prog W 0 (fun _ => true) true Tryd.f4.params.toList args.toList ds p := hA0
  rw [Tryd.params4] at hA hval
  obtain ⟨v0, vs0, d0, ds0, p0, q0, hargs, rfl, rfl, h0, r0⟩ := trodAll_cons hA
  obtain ⟨v1, vs1, d1, ds1, p1, q1, rfl, rfl, rfl, h1, r1⟩ := trodAll_cons r0
  obtain ⟨rfl, rfl, rfl⟩ := trodAll_nil r1
  obtain rfl : args = #[v0, v1] := by cases args; simp_all
  obtain ⟨rfl, rfl⟩ := trodVars_none hV
  have k0 := h0
  have lt0 : ∀ x ∈ p0, x.block < W.heap.size := by obtain ⟨m, hm⟩ := k0; exact DataW.trod_lt m _ _ _ hm
  obtain ⟨a0, len0, cap0, rfl⟩ := okWide_slice Tryd.underlying22 (hval 0 22 v0 rfl rfl)
  obtain ⟨fu0, hf0⟩ := h0
  have hg0 : DataW.trod enc Tryd.prog W 0 (fun _ => true) true fu0 22 [.slice a0 len0 cap0] = some (d0, p0) := by simpa [Value.cells] using hf0
  clear hf0
  obtain ⟨vv0, hvv0⟩ : ∃ v, v = Value.slice a0 len0 cap0 := ⟨_, rfl⟩
  rw [← hvv0] at hg0 hW' k0 ⊢
  obtain ⟨A0, c0, l0, rfl, hc0, hw0, hr0⟩ := read_s41 Tryd.underlying22 hg0
  obtain ⟨a1, rfl, rfl, rfl, y1⟩ := open_string Tryd.underlying9 (hval 1 9 v1 rfl rfl) h1
  have z1 : a1.size ≤ 9223372036854775807 := by unfold maxLen at y1; omega
  clear hA0 hval0
  obtain ⟨k, hk⟩ := pure_FnExactWorstLeft l0 a1 ⟨hr0.2.1, hw0⟩ z1
  refine (laws_FnExactWorstLeft.calls k A0 c0 l0 a1 true W hr0 hc0 hk).mono fun e W' ⟨he, bel0⟩ => ?_
  have bel : Below W.heap.size W W' := bel0
  subst he
  exact ⟨_, rfl, _, _, _, [], _, [], hW', trodAll_mk1 (shut_bool Tryd.underlying4 _), (trodAll_cons_mk (Below.trod laidOut (by kernel_rfl) (of_decide_eq_true (by kernel_rfl)) k0 bel lt0) (trodAll_cons_mk (shut_string Tryd.underlying9 y1) trodAll_mk0)), rfl, bel.frame _, fun h => by cases h⟩
theorem over : Rows.fnExactWorstLeftRow.holds Tryd.pinned (OpenSpec.ofChange Rows.fnExactWorstLeftSpec) :=
  OpenClaim.holds_of_wide 4 Tryd.f4 rfl rfl rfl rfl rfl rfl rfl ⟨rfl, rfl, rfl, rfl, rfl⟩ rfl rfl rfl rfl rfl (by kernel_rfl) Tryd.func4 (by kernel_rfl)
    (of_decide_eq_true (by kernel_rfl)) (by unfold Func.isWrapper; first | (rw [if_pos (by decide +kernel)]; kernel_rfl) | (rw [if_neg (by decide +kernel)]; exact ⟨rfl, rfl⟩))
    (fun os started H enc _ => lifted os started H enc)
theorem proved : Rows.FnExactWorstLeftSaid := over
theorem card : Rows.FnExactWorstLeftCardSaid :=
  Claim7.holds_tied_plain_at .later [] [.data, .pinned] true (true, "19b8eea53550b246e59ea1413b1f8b315f28dd9b6c371207d0244ce6d20b1946") false
    proved (fun _ h => by cases h) (by kernel_rfl) (fun _ h => by cases h) fnExactWorstLeft_row_tie rfl ⟨rfl, rfl⟩ (by kernel_rfl) rfl
    (fun f fn hf hfn => by
      obtain rfl : f = 4 := Option.some.inj ((show Tryd.prog.funcNamed "loop.example/g01350/laws.FnExactWorstLeft" = some 4 by kernel_rfl).symm.trans hf) |>.symm
      obtain rfl : fn = Tryd.f4 := (Option.some.inj (Tryd.func4.symm.trans hfn)).symm
      exact ⟨by kernel_rfl, fun j t ht => by
        rw [Tryd.params4] at ht
        have hm : t ∈ #[22, 9] := Array.mem_of_getElem? ht
        have hm : t ∈ [22, 9] := by simpa using hm
        have hall : ([22, 9].all fun u => !Tryd.prog.wantsStandIn u) = true := by kernel_rfl
        exact (show Tryd.prog.wantsStandIn t = false by simpa using List.all_eq_true.1 hall t hm)⟩)
    (by kernel_rfl)
#print axioms card
end Go.Proofs.YtbpmgfdjcblhnaaDoor.fnExactWorstLeft
namespace Go.Proofs.YtbpmgfdjcblhnaaDoor
theorem fnExactWorstLeft_holds : Rows.FnExactWorstLeftCardSaid := fnExactWorstLeft.card
end Go.Proofs.YtbpmgfdjcblhnaaDoor

