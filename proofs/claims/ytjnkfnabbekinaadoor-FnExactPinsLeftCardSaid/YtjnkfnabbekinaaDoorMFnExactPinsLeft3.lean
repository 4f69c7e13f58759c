/- Part 3 of 3 of the proof of: FnExactPinsLeftCardSaid: the law 'FnExactPinsLeft' answers true for every input, and leaves its arguments as they were. The row and its tied card, over the walk of its calls and the pure statement. -/
import Derived.Test.YtjnkfnabbekinaaDoorWWords
import Derived.Test.YtjnkfnabbekinaaDoorWMore
import Derived.Laws.Strings
import Derived.Lib.SlTrimSet
import Derived.Lib.Bytealg
import Derived.Test.YtjnkfnabbekinaaDoorMFnExactPinsLeft1
import Derived.Test.YtjnkfnabbekinaaDoorMFnExactPinsLeft2
import Derived.Test.YtjnkfnabbekinaaDoorRows
import Derived.Test.YtjnkfnabbekinaaDoorCards
import Derived.Test.YtjnkfnabbekinaaDoorTie
import Derived.WalkKit
import Derived.ProofKit
import Derived.OpenShut
import Derived.ShutString
import Derived.ChangeOld
import Derived.Below
import Derived.SizedLaws
import Derived.LaidMore
import Derived.LaidLaws
import Derived.LaidHandle
import Derived.Handed
import Derived.SevenTiedAt
import Derived.Stop.Joined
namespace Go.Proofs.YtjnkfnabbekinaaDoor
open Go.RowKit Go.Proofs.YtjnkfnabbekinaaDoorW.PrintWords
/-! Plain words for the pure statements: answers that stand from some number of rounds on. -/
theorem Ev.succ {α : Type} {g : Nat → Option α} {r : α} (h : Ev (fun k => g (k + 1)) r) : Ev g r := Ev.step (fun _ => rfl) h
theorem Ev.const {α : Type} {a : Option α} {r : α} (h : a = some r) : Ev (fun _ => a) r := ⟨0, fun _ _ => h⟩
theorem Ev.pos {α : Type} {c : Prop} [Decidable c] {g f : Nat → Option α} {r : α} (hc : c) (h : Ev g r) : Ev (fun k => if c then g k else f k) r := by simp only [if_pos hc]; exact h
theorem Ev.neg {α : Type} {c : Prop} [Decidable c] {g f : Nat → Option α} {r : α} (hc : ¬ c) (h : Ev f r) : Ev (fun k => if c then g k else f k) r := by simp only [if_neg hc]; exact h
theorem Ev.yes {α : Type} {c : Prop} [Decidable c] {g f : Nat → Option α} {r : α} (h : Ev g r) (hc : c := by first | omega | rfl | trivial | decide | simp | (simp; omega)) : Ev (fun k => if c then g k else f k) r := Ev.pos hc h
theorem Ev.no {α : Type} {c : Prop} [Decidable c] {g f : Nat → Option α} {r : α} (h : Ev f r) (hc : ¬ c := by first | omega | decide | simp | (simp; omega)) : Ev (fun k => if c then g k else f k) r := Ev.neg hc h
theorem Ev.bindc {α β : Type} {a : Option α} {x : α} {f : Nat → α → Option β} {r : β} (h : a = some x) (k : Ev (fun n => f n x) r) : Ev (fun n => a.bind (f n)) r := by subst h; exact k
theorem wrap_id {n : Int} (h1 : -9223372036854775808 ≤ n) (h2 : n ≤ 9223372036854775807) : wrap64 n = n := IntWalk.wrap64_in n ⟨h1, h2⟩
theorem wf_i64 {n : Int} (h : (Lit.int .i64 n).wf = true) : -9223372036854775808 ≤ n ∧ n ≤ 9223372036854775807 := by
  have e1 : IntKind.i64.min = -9223372036854775808 := rfl
  have e2 : IntKind.i64.max = 9223372036854775807 := rfl
  simp only [Lit.wf, e1, e2, Bool.and_eq_true, decide_eq_true_eq] at h
  exact h
theorem rd_nat (l : List Int) (j : Nat) (h : j < l.length) : rd l (j : Int) = l[j] := by unfold rd; simp [List.getD, h]
end Go.Proofs.YtjnkfnabbekinaaDoor

namespace Go.Proofs.YtjnkfnabbekinaaDoor
open Go.RowKit Go.Proofs.YtjnkfnabbekinaaDoorW.PrintWords
set_option linter.unusedSimpArgs false
set_option linter.unusedVariables false
/-! Strings as lists of bytes. -/
/-- A string's bytes. -/
def bl (s : ByteArray) : List UInt8 := s.data.toList
theorem bl_len (s : ByteArray) : s.size = (bl s).length := rfl
theorem bl_inj {s t : ByteArray} (h : bl s = bl t) : s = t := ByteArray.ext (Array.toList_inj.1 h)
theorem bl_toList (s : ByteArray) : s.toList = bl s := Go.ByteArray.toList_eq s
theorem bl_mk (a : Array UInt8) : bl ⟨a⟩ = a.toList := rfl
theorem mk_bl (s : ByteArray) : (⟨(bl s).toArray⟩ : ByteArray) = s := bl_inj (by simp [bl])
theorem bl_extract (s : ByteArray) (i j : Nat) : bl (s.extract i j) = ((bl s).drop i).take (j - i) := by simp [bl, ByteArray.data_extract]
theorem bl_append (s t : ByteArray) : bl (s ++ t) = bl s ++ bl t := by simp [bl, ByteArray.data_append]
theorem bl_nums (l : List Int) : bl (strOfNums l) = l.map fun n => UInt8.ofNat n.toNat := rfl
theorem bl_empty : bl (⟨#[]⟩ : ByteArray) = [] := rfl
theorem bt_nat (s : ByteArray) (i : Nat) (h : i < (bl s).length) : bt s (i : Int) = ((bl s)[i].toNat : Int) := by
  unfold bt
  have h' : ((i : Int)).toNat < s.size := by rw [Int.toNat_natCast]; exact h
  rw [dif_pos h']; rfl
theorem of_toNat (c : UInt8) : UInt8.ofNat ((c.toNat : Int)).toNat = c := by rw [Int.toNat_natCast]; simp
theorem bt_of (s : ByteArray) (i : Nat) (h : i < (bl s).length) : UInt8.ofNat (bt s (i : Int)).toNat = (bl s)[i] := by rw [bt_nat s i h]; exact of_toNat _
theorem byte_eq (c d : UInt8) : ((c.toNat : Int) = (d.toNat : Int)) ↔ c = d := by
  constructor
  · intro h; exact UInt8.toNat_inj.1 (by exact_mod_cast h)
  · intro h; rw [h]
theorem byte_lt (c d : UInt8) : ((c.toNat : Int) < (d.toNat : Int)) ↔ c < d := by rw [UInt8.lt_iff_toNat_lt]; omega
theorem byte_le (c d : UInt8) : ((c.toNat : Int) ≤ (d.toNat : Int)) ↔ c ≤ d := by rw [UInt8.le_iff_toNat_le]; omega
theorem dropWhile_nil {α : Type} (p : α → Bool) : ∀ l : List α, l.dropWhile p = [] ↔ l.all p = true
  | [] => by simp
  | x :: xs => by
    by_cases h : p x = true
    · simp [List.dropWhile_cons, h, dropWhile_nil p xs]
    · simp [List.dropWhile_cons, h]
theorem dropWhile_keeps {α : Type} (p : α → Bool) : ∀ l : List α, (l.dropWhile p).all p = l.all p
  | [] => rfl
  | x :: xs => by
    by_cases h : p x = true
    · simp only [List.dropWhile_cons, h, if_true, List.all_cons, Bool.true_and]; exact dropWhile_keeps p xs
    · simp [List.dropWhile_cons, h]
theorem trimS_nil (l cs : List UInt8) : Lib.trimS l cs = [] ↔ l.all (cs.contains ·) = true := by
  unfold Lib.trimS Lib.trimLeftS Lib.trimRightS
  rw [dropWhile_nil, List.all_reverse, dropWhile_keeps, List.all_reverse]
theorem indexByte_neg (l : List UInt8) (c : UInt8) : Lib.indexByte l c < 0 ↔ ¬ c ∈ l := by
  induction l with
  | nil => simp [Lib.indexByte]
  | cons b l ih =>
    have hge := Lib.indexByte_ge l c
    unfold Lib.indexByte
    by_cases h : b = c
    · subst h; simp
    · have h1 : (b == c) = false := by simpa using h
      rw [h1]
      have h2 : ¬ c = b := fun e => h e.symm
      simp only [Bool.false_eq_true, if_false, List.mem_cons, h2, false_or]
      by_cases e : Lib.indexByte l c = -1
      · simp only [e, beq_self_eq_true, if_true]
        have := ih.1 (by omega)
        simp [this]
      · have e' : (Lib.indexByte l c == -1) = false := by simpa using e
        rw [e']
        simp only [Bool.false_eq_true, if_false]
        have hp : ¬ Lib.indexByte l c < 0 := by omega
        have := mt ih.2 hp
        constructor
        · intro h3; omega
        · intro h3; exact absurd h3 this
/-- The letters. -/
def isLow (c : UInt8) : Bool := decide (97 ≤ c.toNat) && decide (c.toNat ≤ 122)
theorem u8_all (P : UInt8 → Prop) [DecidablePred P] (h : ∀ n, n < 256 → P (UInt8.ofNat n)) (c : UInt8) : P c := by
  have := h c.toNat c.toNat_lt
  rwa [show UInt8.ofNat c.toNat = c from by simp] at this
theorem low_contains (c : UInt8) : ([97, 98, 99, 100, 101, 102, 103, 104, 105, 106, 107, 108, 109, 110, 111, 112, 113, 114, 115, 116, 117, 118, 119, 120, 121, 122] : List UInt8).contains c = isLow c := by
  refine u8_all (fun c => _ = isLow c) ?_ c
  decide +kernel
theorem dig_contains (c : UInt8) : ([48, 49, 50, 51, 52, 53, 54, 55, 56, 57] : List UInt8).contains c = (decide (48 ≤ c.toNat) && decide (c.toNat ≤ 57)) := by
  refine u8_all (fun c => _ = (decide (48 ≤ c.toNat) && decide (c.toNat ≤ 57))) ?_ c
  decide +kernel
end Go.Proofs.YtjnkfnabbekinaaDoor

namespace Go.Proofs.YtjnkfnabbekinaaDoor
open Go.RowKit Go.Proofs.YtjnkfnabbekinaaDoor.P Go.Proofs.YtjnkfnabbekinaaDoorW.PrintWords
set_option linter.unusedSimpArgs false
set_option linter.unusedVariables false
theorem in_eq (n a b : Int) : impl_in.f n a b = some (decide (a ≤ n) && decide (n ≤ b)) := by
  unfold impl_in.f
  by_cases h : a ≤ n
  · rw [if_pos h]; simp [h]
  · rw [if_neg h]; simp [h]
theorem l1In_eq (n a b : Int) : spec_l1In.f n a b = some (decide (a ≤ n) && decide (n ≤ b)) := by
  unfold spec_l1In.f
  by_cases h : a ≤ n
  · rw [if_pos h]; simp [h]
  · rw [if_neg h]; simp [h]
end Go.Proofs.YtjnkfnabbekinaaDoor

namespace Go.Proofs.YtjnkfnabbekinaaDoor
open Go.RowKit Go.Proofs.YtjnkfnabbekinaaDoor.P Go.Proofs.YtjnkfnabbekinaaDoorW.PrintWords
set_option linter.unusedSimpArgs false
set_option linter.unusedVariables false
theorem over_eq (s cs : ByteArray) (h1 : s.size ≤ 9223372036854775807) (h2 : cs.size < 4294967281) (h3 : (bl cs).all (fun b => decide (b.toNat < 128)) = true) : impl_over.f s cs = some ((bl s).all ((bl cs).contains ·)) := by
  unfold impl_over.f strings_Trim.f
  rw [if_pos ⟨h1, h2, h3⟩]
  simp only [Option.bind_some]
  congr 1
  rw [bl_toList, bl_mk, List.toList_toArray]
  have := trimS_nil (bl s) (bl cs)
  unfold bl at this ⊢
  rw [Bool.eq_iff_iff, beq_iff_eq]
  exact this
/-- Is it a digit's sign? -/
def isDig (c : UInt8) : Bool := decide (48 ≤ c.toNat) && decide (c.toNat ≤ 57)
theorem overDig_eq (s : ByteArray) (h1 : s.size ≤ 9223372036854775807) : impl_over.f s (⟨#[48, 49, 50, 51, 52, 53, 54, 55, 56, 57]⟩ : ByteArray) = some ((bl s).all isDig) := by
  rw [over_eq s _ h1 (by decide) (by decide)]
  congr 1
  congr 1
  funext c
  exact dig_contains c
/-- Digits, of a length. -/
def digsB (l : List UInt8) (a b : Nat) : Bool := decide (a ≤ l.length) && decide (l.length ≤ b) && l.all isDig
theorem isDigits_eq (s : ByteArray) (a b : Nat) (h1 : s.size ≤ 9223372036854775807) : impl_isDigits.f s a b = some (digsB (bl s) a b) := by
  unfold impl_isDigits.f digsB
  rw [in_eq]
  have e : (decide ((a : Int) ≤ (s.size : Int)) && decide ((s.size : Int) ≤ (b : Int))) = (decide (a ≤ (bl s).length) && decide ((bl s).length ≤ b)) := by
    rw [bl_len]; congr 1 <;> (rw [decide_eq_decide]; omega)
  rw [e]
  simp only [Option.bind_some]
  cases (decide (a ≤ (bl s).length) && decide ((bl s).length ≤ b)) with
  | false => rfl
  | true => rw [if_pos rfl, overDig_eq s h1]; rfl
theorem isDig_at {l : List UInt8} (h : l.all isDig = true) (i : Nat) (hi : i < l.length) : 48 ≤ l[i].toNat ∧ l[i].toNat ≤ 57 := by
  have := List.all_eq_true.1 h _ (List.getElem_mem hi)
  unfold isDig at this
  simpa only [Bool.and_eq_true, decide_eq_true_eq] using this
end Go.Proofs.YtjnkfnabbekinaaDoor

namespace Go.Proofs.YtjnkfnabbekinaaDoor
open Go.RowKit Go.Proofs.YtjnkfnabbekinaaDoor.P Go.Proofs.YtjnkfnabbekinaaDoorW.PrintWords
set_option linter.unusedSimpArgs false
set_option linter.unusedVariables false
theorem piDigits_l0 (s : ByteArray) (hs : s.size ≤ 9223372036854775806) : ∀ (d i : Nat), i + d = s.size → Ev (fun k => spec_piDigits.l0 k s i) (((bl s).drop i).all isDig)
  | 0, i, hi => by
    apply Ev.succ
    simp only [spec_piDigits.l0]
    refine Ev.neg (by omega) (Ev.const ?_)
    rw [List.drop_of_length_le (by rw [← bl_len]; omega)]; rfl
  | d + 1, i, hi => by
    have hlt : i < (bl s).length := by rw [← bl_len]; omega
    apply Ev.succ
    simp only [spec_piDigits.l0]
    refine Ev.pos (by omega) (Ev.pos (by omega) ?_)
    rw [wrap_id (by omega) (by omega), bt_nat s i hlt, List.drop_eq_getElem_cons hlt, List.all_cons]
    by_cases c1 : ((bl s)[i].toNat : Int) < 48
    · refine Ev.pos c1 (Ev.const ?_)
      have : isDig (bl s)[i] = false := by unfold isDig; rw [Bool.and_eq_false_iff]; left; rw [decide_eq_false_iff_not]; omega
      rw [this]; rfl
    · refine Ev.neg c1 ?_
      by_cases c2 : ((bl s)[i].toNat : Int) > 57
      · refine Ev.pos c2 (Ev.const ?_)
        have : isDig (bl s)[i] = false := by unfold isDig; rw [Bool.and_eq_false_iff]; right; rw [decide_eq_false_iff_not]; omega
        rw [this]; rfl
      · refine Ev.neg c2 ?_
        have : isDig (bl s)[i] = true := by unfold isDig; rw [Bool.and_eq_true, decide_eq_true_eq, decide_eq_true_eq]; omega
        rw [this, Bool.true_and]
        exact_mod_cast piDigits_l0 s hs d (i + 1) (by omega)
theorem piDigits_ev (s : ByteArray) (a b : Nat) (hb : b ≤ 1048576) : Ev (fun k => spec_piDigits.f k s a b) (digsB (bl s) a b) := by
  unfold spec_piDigits.f digsB
  refine Ev.bindc (l1In_eq _ _ _) ?_
  have e : (decide ((a : Int) ≤ (s.size : Int)) && decide ((s.size : Int) ≤ (b : Int))) = (decide (a ≤ (bl s).length) && decide ((bl s).length ≤ b)) := by
    rw [bl_len]; congr 1 <;> (rw [decide_eq_decide]; omega)
  rw [e]
  cases h : (decide (a ≤ (bl s).length) && decide ((bl s).length ≤ b)) with
  | false => exact Ev.no (Ev.now _)
  | true =>
    have : s.size ≤ b := by simp only [Bool.and_eq_true, decide_eq_true_eq] at h; rw [bl_len]; omega
    refine Ev.yes ?_
    rw [Bool.true_and]
    exact piDigits_l0 s (by omega) s.size 0 (by omega)
/-- Is it a pin? -/
def pinB (l : List UInt8) : Bool := digsB l 2 4
theorem isPin_eq (s : ByteArray) (h1 : s.size ≤ 9223372036854775807) : impl_IsPin.f s = some (pinB (bl s)) := by
  unfold impl_IsPin.f pinB
  rw [show impl_isDigits.f s 2 4 = some (digsB (bl s) 2 4) from isDigits_eq s 2 4 h1]; rfl
theorem piPin_ev (s : ByteArray) : Ev (fun k => spec_piPin.f k s) (pinB (bl s)) := by
  unfold spec_piPin.f pinB
  exact Ev.bind (piDigits_ev s 2 4 (by omega)) (Ev.now _)
theorem pinB_len {l : List UInt8} (h : pinB l = true) : 2 ≤ l.length ∧ l.length ≤ 4 ∧ l.all isDig = true := by
  unfold pinB digsB at h
  simp only [Bool.and_eq_true, decide_eq_true_eq] at h
  exact ⟨h.1.1, h.1.2, h.2⟩
end Go.Proofs.YtjnkfnabbekinaaDoor

namespace Go.Proofs.YtjnkfnabbekinaaDoor
open Go.RowKit Go.Proofs.YtjnkfnabbekinaaDoor.P Go.Proofs.YtjnkfnabbekinaaDoorW.PrintWords
set_option linter.unusedSimpArgs false
set_option linter.unusedVariables false
/-! Lists of guesses: what the laws do with them, and whether they are guesses. -/
abbrev LG := S61
abbrev IG := S62
def toG (g : LG) : IG := ⟨g.f0, g.f1, g.f2⟩
theorem rdL (l : List LG) (j : Nat) (h : j < l.length) : rd_T61 l (j : Int) = l[j] := by unfold rd_T61; simp [List.getD, h]
theorem rdI (l : List IG) (j : Nat) (h : j < l.length) : rd_T62 l (j : Int) = l[j] := by unfold rd_T62; simp [List.getD, h]
theorem szG_l0 (l : List LG) (hl : l.length ≤ 1048576) (hs : ∀ g ∈ l, g.f0.size ≤ 9223372036854775807) : ∀ (d i : Nat) (x : Int), i + d = l.length → 0 ≤ x → x ≤ 1048576 → ∃ r, Ev (fun k => laws_szGuessS.l0 k l x i) r ∧ (¬ r < 0 → ∀ g ∈ l.drop i, g.f0.size ≤ 1048576)
  | 0, i, x, hi, h0, h1 => by
    refine ⟨x, ?_, fun _ g hg => ?_⟩
    · apply Ev.succ; simp only [laws_szGuessS.l0]; exact Ev.neg (by omega) (Ev.now _)
    · rw [List.drop_of_length_le (by omega)] at hg; simp at hg
  | d + 1, i, x, hi, h0, h1 => by
    have hlt : i < l.length := by omega
    have hsz := hs _ (List.getElem_mem hlt)
    by_cases c : (l[i].f0.size : Int) ≤ x
    · obtain ⟨r, hr, hg⟩ := szG_l0 l hl hs d (i + 1) (x - l[i].f0.size) (by omega) (by omega) (by omega)
      refine ⟨r, ?_, fun hn g hm => ?_⟩
      · apply Ev.succ; simp only [laws_szGuessS.l0]
        rw [rdL l i hlt]
        refine Ev.pos (by omega) (Ev.pos (by omega) (Ev.bindc (x := x - l[i].f0.size) ?_ (Ev.neg (by omega) ?_)))
        · unfold laws_szGuess.f; rw [wrap_id (by omega) (by omega), if_neg (by omega)]
        · rw [wrap_id (by omega) (by omega)]; exact_mod_cast hr
      · rw [List.drop_eq_getElem_cons hlt] at hm
        rcases List.mem_cons.1 hm with rfl | hm
        · omega
        · exact hg hn g hm
    · refine ⟨-1, ?_, fun hn => absurd (by omega) hn⟩
      apply Ev.succ; simp only [laws_szGuessS.l0]
      rw [rdL l i hlt]
      refine Ev.pos (by omega) (Ev.pos (by omega) (Ev.bindc (x := -1) ?_ (Ev.pos (by omega) (Ev.now _))))
      unfold laws_szGuess.f; rw [wrap_id (by omega) (by omega), if_pos (by omega)]
theorem szG_ev (l : List LG) (hl : l.length ≤ 9223372036854775807) (hs : ∀ g ∈ l, g.f0.size ≤ 9223372036854775807) : ∃ r, Ev (fun k => laws_szGuessS.f k l 1048576) r ∧ (¬ r < 0 → l.length ≤ 1048576 ∧ ∀ g ∈ l, g.f0.size ≤ 1048576) := by
  by_cases c : l.length ≤ 1048576
  · obtain ⟨r, hr, hg⟩ := szG_l0 l c hs l.length 0 (1048576 - l.length) (by omega) (by omega) (by omega)
    refine ⟨r, ?_, fun hn => ⟨c, fun g hm => hg hn g (by simpa using hm)⟩⟩
    unfold laws_szGuessS.f
    rw [wrap_id (by omega) (by omega)]
    exact Ev.neg (by omega) hr
  · refine ⟨-1, ?_, fun hn => absurd (by omega) hn⟩
    unfold laws_szGuessS.f
    rw [wrap_id (by omega) (by omega)]
    exact Ev.pos (by omega) (Ev.now _)
theorem toG_l0 (l : List LG) (hl : l.length ≤ 1048576) : ∀ (d i : Nat) (x : List IG), i + d = l.length → x.length = l.length → x.take i = (l.map toG).take i → Ev (fun k => laws_toGuessS.l0 k l x i) (l.map toG)
  | 0, i, x, hi, hx, ht => by
    apply Ev.succ; simp only [laws_toGuessS.l0]
    refine Ev.neg (by omega) (Ev.const ?_)
    rw [List.take_of_length_le (by omega), List.take_of_length_le (by simp; omega)] at ht
    rw [ht]
  | d + 1, i, x, hi, hx, ht => by
    have hlt : i < l.length := by omega
    apply Ev.succ; simp only [laws_toGuessS.l0]
    rw [rdL l i hlt]
    refine Ev.pos (by omega) (Ev.pos (by omega) (Ev.bindc rfl (Ev.pos (by omega) ?_)))
    rw [wrap_id (by omega) (by omega), Int.toNat_natCast]
    have := toG_l0 l hl d (i + 1) (x.set i (toG l[i])) (by omega) (by simp [hx]) (by
      rw [List.take_succ_eq_append_getElem (by simp; omega), List.take_succ_eq_append_getElem (by simp; omega), List.take_set_of_le (Nat.le_refl _), ht]
      simp)
    exact_mod_cast this
theorem toG_ev (l : List LG) (hl : l.length ≤ 1048576) : Ev (fun k => laws_toGuessS.f k l) (l.map toG) := by
  unfold laws_toGuessS.f
  refine Ev.pos (by omega) (Ev.pos (by omega) ?_)
  exact toG_l0 l hl l.length 0 _ (by omega) (by simp) (by simp)
theorem eqG_l0 (a : List IG) (hl : a.length ≤ 1048576) : ∀ (d i : Nat), i + d = a.length → Ev (fun k => laws_eqGuessS.l0 k a a i) true
  | 0, i, hi => by
    apply Ev.succ; simp only [laws_eqGuessS.l0]
    exact Ev.neg (by omega) (Ev.now _)
  | d + 1, i, hi => by
    have hlt : i < a.length := by omega
    apply Ev.succ; simp only [laws_eqGuessS.l0]
    rw [rdI a i hlt]
    refine Ev.pos (by omega) (Ev.pos (by omega) (Ev.pos (by omega) (Ev.bindc (x := true) (by unfold laws_eqGuess.f; simp) (Ev.pos rfl ?_))))
    rw [wrap_id (by omega) (by omega)]
    exact_mod_cast eqG_l0 a hl d (i + 1) (by omega)
theorem eqG_ev (a : List IG) (hl : a.length ≤ 1048576) : Ev (fun k => laws_eqGuessS.f k a a) true := by
  unfold laws_eqGuessS.f
  exact Ev.pos rfl (eqG_l0 a hl a.length 0 (by omega))
/-- Is it a guess beside pins so long? -/
def okG (n : Nat) (g : IG) : Bool := pinB (bl g.f0) && decide (g.f0.size = n) && (decide (0 ≤ g.f1) && decide (g.f1 ≤ n)) && (decide (0 ≤ g.f2) && decide (g.f2 ≤ n - g.f1))
def guessesB (l : List IG) : Bool := (decide (1 ≤ l.length) && decide (l.length ≤ 10)) && l.all (okG (rd_T62 l 0).f0.size)
theorem okG_spec (n : Nat) (hn : n ≤ 1048576) (g : IG) {R : Bool} {f : Nat → Option Bool} (h : Ev f R) :
    Ev (fun k => (spec_piPin.f k g.f0).bind fun t105 => (if t105 = true then (if (g.f0.size : Int) = (n : Int) then ((spec_l1In.f g.f1 0 (n : Int)).bind fun t106 => (if t106 = true then ((spec_l1In.f g.f2 0 (wrap64 ((n : Int) - g.f1))).bind fun t107 => (if t107 = true then f k else (some false))) else (some false))) else (some false)) else (some false))) (okG n g && R) := by
  unfold okG
  refine Ev.bind (piPin_ev g.f0) ?_
  cases h1 : pinB (bl g.f0) with
  | false => exact Ev.no (Ev.now _)
  | true =>
    refine Ev.yes ?_
    by_cases h2 : g.f0.size = n
    · refine Ev.pos (by omega) (Ev.bindc (l1In_eq _ _ _) ?_)
      rw [decide_eq_true h2]
      cases h3 : (decide (0 ≤ g.f1) && decide (g.f1 ≤ (n : Int))) with
      | false => exact Ev.no (Ev.now _)
      | true =>
        have hb : 0 ≤ g.f1 ∧ g.f1 ≤ n := by simpa using h3
        refine Ev.yes (Ev.bindc (l1In_eq _ _ _) ?_)
        rw [wrap_id (by omega) (by omega)]
        cases h4 : (decide (0 ≤ g.f2) && decide (g.f2 ≤ (n : Int) - g.f1)) with
        | false => exact Ev.no (Ev.now _)
        | true => exact Ev.yes (by simpa using h)
    · refine Ev.neg (by omega) ?_
      rw [decide_eq_false h2]
      exact Ev.now _
theorem piG_l0 (l : List IG) (hl : l.length ≤ 1048576) (n : Nat) (hn : n ≤ 1048576) (h0 : 0 < l.length → (rd_T62 l 0).f0.size = n) : ∀ (d i : Nat), i + d = l.length → Ev (fun k => spec_piGuesses.l0 k l l (l.length : Int) i) ((l.drop i).all (okG n))
  | 0, i, hi => by
    apply Ev.succ; simp only [spec_piGuesses.l0]
    refine Ev.neg (by omega) (Ev.const ?_)
    rw [List.drop_of_length_le (by omega)]; rfl
  | d + 1, i, hi => by
    have hlt : i < l.length := by omega
    apply Ev.succ; simp only [spec_piGuesses.l0]
    rw [rdI l i hlt, h0 (by omega)]
    refine Ev.pos (by omega) (Ev.pos (by omega) (Ev.pos (by omega) (Ev.pos (by omega) ?_)))
    rw [wrap_id (n := (i : Int) + 1) (by omega) (by omega), List.drop_eq_getElem_cons hlt, List.all_cons]
    have := piG_l0 l hl n hn h0 d (i + 1) (by omega)
    exact okG_spec n hn l[i] (by exact_mod_cast this)
theorem len_in (n : Nat) : (decide ((1 : Int) ≤ (n : Int)) && decide ((n : Int) ≤ 10)) = (decide (1 ≤ n) && decide (n ≤ 10)) := by
  congr 1 <;> (rw [decide_eq_decide]; omega)
theorem piGuesses_ev (l : List IG) (hl : l.length ≤ 1048576) (hs : ∀ g ∈ l, g.f0.size ≤ 1048576) : Ev (fun k => spec_piGuesses.f k l) (guessesB l) := by
  unfold spec_piGuesses.f guessesB
  refine Ev.bindc (l1In_eq _ _ _) ?_
  rw [len_in]
  cases h : (decide (1 ≤ l.length) && decide (l.length ≤ 10)) with
  | false => exact Ev.no (Ev.now _)
  | true =>
    refine Ev.yes ?_
    rw [Bool.true_and]
    have hp : 0 < l.length := by simp only [Bool.and_eq_true, decide_eq_true_eq] at h; omega
    have hb : (rd_T62 l 0).f0.size ≤ 1048576 := by
      have e := rdI l 0 hp
      rw [show ((0 : Nat) : Int) = 0 from rfl] at e
      rw [e]; exact hs _ (List.getElem_mem hp)
    exact piG_l0 l hl _ hb (fun _ => rfl) l.length 0 (by omega)
theorem clo_eq (l : List IG) (hp : 0 < l.length) (hb : (rd_T62 l 0).f0.size ≤ 1048576) (g : IG) (hg : g.f0.size ≤ 1048576) : impl_AreGuesses_1.f g.f0 g.f1 g.f2 l = some (!okG (rd_T62 l 0).f0.size g) := by
  unfold impl_AreGuesses_1.f okG
  rw [isPin_eq g.f0 (by omega)]
  generalize (rd_T62 l 0).f0.size = n at hb ⊢
  simp only [Option.bind_some]
  cases h1 : pinB (bl g.f0) with
  | false => simp
  | true =>
    rw [if_pos rfl, if_pos (by omega)]
    by_cases h2 : g.f0.size = n
    · rw [if_pos (by omega), in_eq, h2]
      simp only [Option.bind_some, decide_true, Bool.true_and]
      cases h3 : (decide (0 ≤ g.f1) && decide (g.f1 ≤ (n : Int))) with
      | false => simp
      | true =>
        have hb : 0 ≤ g.f1 ∧ g.f1 ≤ n := by simpa using h3
        rw [if_pos rfl, wrap_id (by omega) (by omega), in_eq]
        simp
    · rw [if_neg (by omega), decide_eq_false h2]
      simp
theorem idxG_l0 (l : List IG) (hl : l.length ≤ 1048576) (F : ByteArray → Int → Int → Option Bool) (b : IG → Bool) (hF : ∀ g ∈ l, F g.f0 g.f1 g.f2 = some (b g)) : ∀ (d i : Nat), i + d = l.length → ∃ r, Ev (fun k => impl_Guess_78.l0 k l F (l.length : Int) i) r ∧ (r ≥ 0 ↔ (l.drop i).any b = true)
  | 0, i, hi => by
    refine ⟨-1, ?_, ?_⟩
    · apply Ev.succ; simp only [impl_Guess_78.l0]; exact Ev.neg (by omega) (Ev.now _)
    · rw [List.drop_of_length_le (by omega)]; simp
  | d + 1, i, hi => by
    have hlt : i < l.length := by omega
    rw [List.drop_eq_getElem_cons hlt, List.any_cons]
    have hf := hF _ (List.getElem_mem hlt)
    cases hb : b l[i] with
    | true =>
      refine ⟨i, ?_, by simp⟩
      apply Ev.succ; simp only [impl_Guess_78.l0]
      rw [rdI l i hlt, hf, hb]
      exact Ev.pos (by omega) (Ev.pos (by omega) (Ev.pos (by omega) (Ev.bindc rfl (Ev.pos rfl (Ev.now _)))))
    | false =>
      obtain ⟨r, hr, h⟩ := idxG_l0 l hl F b hF d (i + 1) (by omega)
      refine ⟨r, ?_, by rw [h]; simp⟩
      apply Ev.succ; simp only [impl_Guess_78.l0]
      rw [rdI l i hlt, hf, hb]
      refine Ev.pos (by omega) (Ev.pos (by omega) (Ev.pos (by omega) (Ev.bindc rfl (Ev.no ?_))))
      rw [wrap_id (by omega) (by omega)]
      exact_mod_cast hr
theorem anyG_ev (l : List IG) (hl : l.length ≤ 1048576) (F : ByteArray → Int → Int → Option Bool) (b : IG → Bool) (hF : ∀ g ∈ l, F g.f0 g.f1 g.f2 = some (b g)) : Ev (fun k => impl_Guess_60.f k l F) (l.any b) := by
  obtain ⟨r, hr, h⟩ := idxG_l0 l hl F b hF l.length 0 (by omega)
  unfold impl_Guess_60.f impl_Guess_78.f
  refine Ev.bind hr (Ev.const ?_)
  rw [List.drop_zero] at h
  congr 1
  rw [Bool.eq_iff_iff, decide_eq_true_iff]; exact h
theorem areGuesses_ev (l : List IG) (hl : l.length ≤ 1048576) (hs : ∀ g ∈ l, g.f0.size ≤ 1048576) : Ev (fun k => impl_AreGuesses.f k l) (guessesB l) := by
  unfold impl_AreGuesses.f guessesB
  refine Ev.bindc (in_eq _ _ _) ?_
  rw [len_in]
  cases h : (decide (1 ≤ l.length) && decide (l.length ≤ 10)) with
  | false => exact Ev.no (Ev.now _)
  | true =>
    have hp : 0 < l.length := by simp only [Bool.and_eq_true, decide_eq_true_eq] at h; omega
    have hb : (rd_T62 l 0).f0.size ≤ 1048576 := by
      have e := rdI l 0 hp
      rw [show ((0 : Nat) : Int) = 0 from rfl] at e
      rw [e]; exact hs _ (List.getElem_mem hp)
    refine Ev.yes (Ev.bind (anyG_ev l hl _ _ (fun g hg => clo_eq l hp hb g (hs g hg))) (Ev.const ?_))
    rw [Bool.true_and, ← List.not_all_eq_any_not, Bool.not_not]
theorem mapG_sz {l : List LG} (hs : ∀ g ∈ l, g.f0.size ≤ 1048576) : ∀ g ∈ l.map toG, g.f0.size ≤ 1048576 := by
  intro g hg
  obtain ⟨x, hx, rfl⟩ := List.mem_map.1 hg
  exact hs x hx
end Go.Proofs.YtjnkfnabbekinaaDoor

namespace Go.Proofs.YtjnkfnabbekinaaDoor
open Go.RowKit Go.Proofs.YtjnkfnabbekinaaDoor.P Go.Proofs.YtjnkfnabbekinaaDoorW.PrintWords
set_option linter.unusedSimpArgs false
set_option linter.unusedVariables false
theorem cb_eq (l : List UInt8) (d : UInt8) : (Lib.countByte l d : Int) = (l.count d : Nat) := rfl
theorem hits_step' (a b : List UInt8) (i : Nat) (ha : i < a.length) (hb : i < b.length) :
    hitsN (a.drop i) (b.drop i) = (if a[i].toNat = b[i].toNat then 1 else 0) + hitsN (a.drop (i + 1)) (b.drop (i + 1)) := by
  rw [List.drop_eq_getElem_cons ha, List.drop_eq_getElem_cons hb, hitsN]
  congr 1
  by_cases h : a[i] = b[i]
  · rw [if_pos h, if_pos (by rw [h])]
  · rw [if_neg h, if_neg (fun h' => h (UInt8.toNat_inj.1 h'))]
theorem count_drop (a : List UInt8) (d : UInt8) (i : Nat) (ha : i < a.length) :
    (a.drop i).count d = (if a[i].toNat = d.toNat then 1 else 0) + (a.drop (i + 1)).count d := by
  rw [List.drop_eq_getElem_cons ha, List.count_cons, Nat.add_comm]
  congr 1
  by_cases h : a[i] = d
  · rw [if_pos (by simpa using h), if_pos (by rw [h])]
  · rw [if_neg (by simpa using h), if_neg (fun h' => h (UInt8.toNat_inj.1 h'))]
theorem piHits_l2 (a b : ByteArray) (hl : (bl a).length = (bl b).length) (h4 : (bl a).length ≤ 4) (x6 x7 x9 : Int) (d : UInt8) (hd : x9 = (d.toNat : Int)) (r : Int × Int)
    (h : Ev (fun k => spec_piHits.l1 k a b x6 (wrap64 (x7 + mn ((bl a).count d : Nat) ((bl b).count d : Nat))) ((x9 + 1) % 256)) r) : ∀ (n i p q : Nat), i + n = (bl a).length → p + ((bl a).drop i).count d = (bl a).count d → q + ((bl b).drop i).count d = (bl b).count d →
    Ev (fun k => spec_piHits.l2 k a b x6 x7 x9 p q i) r
  | 0, i, p, q, hi, hp, hq => by
    apply Ev.succ
    simp only [spec_piHits.l2]
    refine Ev.neg (by rw [bl_len]; omega) ?_
    rw [List.drop_of_length_le (by omega), List.count_nil, Nat.add_zero] at hp hq
    refine Ev.bindc (x := mn ((bl a).count d : Nat) ((bl b).count d : Nat)) ?_ h
    rw [hp, hq]
    unfold spec_l1Least.f mn
    split <;> split <;> first | rfl | (congr 1; omega)
  | n + 1, i, p, q, hi, hp, hq => by
    have ha : i < (bl a).length := by omega
    have hb : i < (bl b).length := by omega
    have hsa : a.size = (bl a).length := rfl
    have hsb : b.size = (bl b).length := rfl
    have ca := count_drop (bl a) d i ha
    have cb := count_drop (bl b) d i hb
    have la := List.count_le_length (a := d) (l := bl a)
    have lb := List.count_le_length (a := d) (l := bl b)
    apply Ev.succ
    simp only [spec_piHits.l2]
    rw [bt_nat a i ha, bt_nat b i hb, wrap_id (n := (i : Int) + 1) (by omega) (by omega), hd]
    refine Ev.pos (by omega) (Ev.pos (by omega) ?_)
    by_cases e1 : (bl a)[i].toNat = d.toNat
    · rw [if_pos e1] at ca
      refine Ev.pos (by omega) (Ev.pos (by omega) ?_)
      rw [wrap_id (n := (p : Int) + 1) (by omega) (by omega)]
      by_cases e2 : (bl b)[i].toNat = d.toNat
      · rw [if_pos e2] at cb
        refine Ev.pos (by omega) ?_
        rw [wrap_id (n := (q : Int) + 1) (by omega) (by omega), ← hd]
        exact_mod_cast piHits_l2 a b hl h4 x6 x7 x9 d hd r h n (i + 1) (p + 1) (q + 1) (by omega) (by omega) (by omega)
      · rw [if_neg e2] at cb
        refine Ev.neg (by omega) ?_
        rw [← hd]
        exact_mod_cast piHits_l2 a b hl h4 x6 x7 x9 d hd r h n (i + 1) (p + 1) q (by omega) (by omega) (by omega)
    · rw [if_neg e1] at ca
      refine Ev.neg (by omega) (Ev.pos (by omega) ?_)
      by_cases e2 : (bl b)[i].toNat = d.toNat
      · rw [if_pos e2] at cb
        refine Ev.pos (by omega) ?_
        rw [wrap_id (n := (q : Int) + 1) (by omega) (by omega), ← hd]
        exact_mod_cast piHits_l2 a b hl h4 x6 x7 x9 d hd r h n (i + 1) p (q + 1) (by omega) (by omega) (by omega)
      · rw [if_neg e2] at cb
        refine Ev.neg (by omega) ?_
        rw [← hd]
        exact_mod_cast piHits_l2 a b hl h4 x6 x7 x9 d hd r h n (i + 1) p q (by omega) (by omega) (by omega)
theorem bothN_bd (a b : List UInt8) (n : Nat) (h : a.length ≤ n) : ∀ l : List UInt8, 0 ≤ bothN a b l ∧ bothN a b l ≤ n * l.length
  | [] => by simp [bothN]
  | d :: l => by
    have ih := bothN_bd a b n h l
    have h1 := List.count_le_length (a := d) (l := a)
    simp only [bothN, cb_eq, List.length_cons, Int.natCast_add, Int.mul_add, Int.natCast_one, Int.mul_one]
    have : 0 ≤ mn (a.count d : Nat) (b.count d : Nat) ∧ mn (a.count d : Nat) (b.count d : Nat) ≤ n := by unfold mn; split <;> omega
    omega
theorem dig_tail : ∀ j : Fin 10, [48, 49, 50, 51, 52, 53, 54, 55, 56, (57 : UInt8)].drop j.val = UInt8.ofNat (48 + j.val) :: [48, 49, 50, 51, 52, 53, 54, 55, 56, (57 : UInt8)].drop (j.val + 1) := by decide
theorem dig_nat : ∀ j : Fin 10, (UInt8.ofNat (48 + j.val)).toNat = 48 + j.val := by decide
theorem piHits_l1 (a b : ByteArray) (hl : (bl a).length = (bl b).length) (h4 : (bl a).length ≤ 4) (x6 : Int) (h6 : 0 ≤ x6 ∧ x6 ≤ 4) : ∀ (n j : Nat) (x7 : Int), j + n = 10 → 0 ≤ x7 → x7 ≤ 4 * j →
    Ev (fun k => spec_piHits.l1 k a b x6 x7 (48 + (j : Int))) (x6, x7 + bothN (bl a) (bl b) ([48, 49, 50, 51, 52, 53, 54, 55, 56, 57].drop j) - x6)
  | 0, j, x7, hj, h0, h1 => by
    apply Ev.succ
    simp only [spec_piHits.l1]
    refine Ev.neg (by omega) (Ev.const ?_)
    rw [List.drop_of_length_le (by simp; omega), wrap_id (by omega) (by omega)]; simp [bothN]
  | n + 1, j, x7, hj, h0, h1 => by
    have hj10 : j < 10 := by omega
    have bd : 0 ≤ mn ((bl a).count (UInt8.ofNat (48 + j)) : Nat) ((bl b).count (UInt8.ofNat (48 + j)) : Nat) ∧ mn ((bl a).count (UInt8.ofNat (48 + j)) : Nat) ((bl b).count (UInt8.ofNat (48 + j)) : Nat) ≤ 4 := by
      have := List.count_le_length (a := UInt8.ofNat (48 + j)) (l := bl a)
      unfold mn; split <;> omega
    apply Ev.succ
    simp only [spec_piHits.l1]
    refine Ev.pos (by omega) ?_
    have e9 : (48 + (j : Int) + 1) % 256 = 48 + ((j + 1 : Nat) : Int) := by rw [Int.emod_eq_of_lt (by omega) (by omega)]; omega
    have := piHits_l1 a b hl h4 x6 h6 n (j + 1) (x7 + mn ((bl a).count (UInt8.ofNat (48 + j)) : Nat) ((bl b).count (UInt8.ofNat (48 + j)) : Nat)) (by omega) (by omega) (by omega)
    have r0 := piHits_l2 a b hl h4 x6 x7 (48 + (j : Int)) (UInt8.ofNat (48 + j)) (by have := dig_nat ⟨j, hj10⟩; dsimp only at this; omega) _ (by rw [e9, wrap_id (by omega) (by omega)]; exact this) (bl a).length 0 0 0 (by omega) (by simp) (by simp)
    have e := dig_tail ⟨j, hj10⟩
    dsimp only at e
    rw [e, bothN, ← Int.add_assoc]
    exact_mod_cast r0
theorem piHits_l0 (a b : ByteArray) (hl : (bl a).length = (bl b).length) (h4 : (bl a).length ≤ 4) : ∀ (n i : Nat) (x6 : Nat), i + n = (bl a).length → x6 ≤ i →
    Ev (fun k => spec_piHits.l0 k a b x6 0 i) (((x6 + hitsN ((bl a).drop i) ((bl b).drop i) : Nat) : Int), bothN (bl a) (bl b) [48, 49, 50, 51, 52, 53, 54, 55, 56, 57] - ((x6 + hitsN ((bl a).drop i) ((bl b).drop i) : Nat) : Int))
  | 0, i, x6, hi, h6 => by
    apply Ev.succ
    simp only [spec_piHits.l0]
    refine Ev.neg (by rw [bl_len]; omega) ?_
    rw [List.drop_of_length_le (l := bl a) (by omega)]
    have := piHits_l1 a b hl h4 x6 (by omega) 10 0 0 (by omega) (by omega) (by omega)
    simpa [hitsN] using this
  | n + 1, i, x6, hi, h6 => by
    have ha : i < (bl a).length := by omega
    have hb : i < (bl b).length := by omega
    have hsa : a.size = (bl a).length := rfl
    have hsb : b.size = (bl b).length := rfl
    have st := hits_step' (bl a) (bl b) i ha hb
    apply Ev.succ
    simp only [spec_piHits.l0]
    rw [bt_nat a i ha, bt_nat b i hb, wrap_id (n := (i : Int) + 1) (by omega) (by omega)]
    refine Ev.pos (by omega) (Ev.pos (by omega) (Ev.pos (by omega) ?_))
    by_cases e1 : (bl a)[i].toNat = (bl b)[i].toNat
    · rw [if_pos e1] at st
      refine Ev.pos (by omega) ?_
      rw [wrap_id (n := (x6 : Int) + 1) (by omega) (by omega)]
      have := piHits_l0 a b hl h4 n (i + 1) (x6 + 1) (by omega) (by omega)
      rw [Nat.add_assoc, ← st] at this
      exact_mod_cast this
    · rw [if_neg e1, Nat.zero_add] at st
      refine Ev.neg (by omega) ?_
      have := piHits_l0 a b hl h4 n (i + 1) x6 (by omega) (by omega)
      rw [← st] at this
      exact_mod_cast this
/-- Hits and near ones, told by lists. -/
def hitsP (a b : List UInt8) : Int × Int := ((hitsN a b : Int), bothN a b [48, 49, 50, 51, 52, 53, 54, 55, 56, 57] - (hitsN a b : Int))
theorem piHits_ev (a b : ByteArray) (hl : (bl a).length = (bl b).length) (h4 : (bl a).length ≤ 4) : Ev (fun k => spec_piHits.f k a b) (hitsP (bl a) (bl b)) := by
  unfold spec_piHits.f hitsP
  have := piHits_l0 a b hl h4 (bl a).length 0 0 (by omega) (by omega)
  simpa using this
theorem hitsOf_eq (a b : ByteArray) (hl : (bl a).length = (bl b).length) (h4 : (bl a).length ≤ 4) : impl_hitsOf.f a b = some (hitsP (bl a) (bl b)) := by
  have hsa : a.size = (bl a).length := rfl
  have hsb : b.size = (bl b).length := rfl
  unfold impl_hitsOf.f
  rw [if_pos ⟨by omega, by omega⟩]; rfl
end Go.Proofs.YtjnkfnabbekinaaDoor

namespace Go.Proofs.YtjnkfnabbekinaaDoor
open Go.RowKit Go.Proofs.YtjnkfnabbekinaaDoor.P Go.Proofs.YtjnkfnabbekinaaDoorW.PrintWords
set_option linter.unusedSimpArgs false
set_option linter.unusedVariables false
set_option linter.unusedSectionVars false
/-! The pins that fit guesses: both sides go through all digits' texts, in order. -/
abbrev rdIG (l : List IG) (i : Int) : IG := rd_T62 l i
/-- The digits of a number, so many of them. -/
def dg : Nat → Nat → List UInt8
  | 0, _ => []
  | n + 1, x => dg n (x / 10) ++ [UInt8.ofNat (48 + x % 10)]
theorem dg_len : ∀ n x : Nat, (dg n x).length = n
  | 0, _ => rfl
  | n + 1, x => by unfold dg; rw [List.length_append, dg_len n]; rfl
def tx (n x : Nat) : ByteArray := ⟨(dg n x).toArray⟩
theorem bl_tx (n x : Nat) : bl (tx n x) = dg n x := by simp [tx, bl]
theorem tx_size (n x : Nat) : (tx n x).size = n := by rw [bl_len, bl_tx, dg_len]
/-- All texts of so many digits. -/
def allT (n : Nat) : List ByteArray := (List.range (10 ^ n)).map (tx n)
theorem allT_len (n : Nat) : (allT n).length = 10 ^ n := by unfold allT; simp
theorem pow4 {n : Nat} (h : n ≤ 4) : 10 ^ n ≤ 10000 := by
  have : 10 ^ n ≤ 10 ^ 4 := Nat.pow_le_pow_right (by omega) h
  simpa using this
theorem num_bl (a : Nat) : bl (strOfNums ([(wrap64 (48 + Int.tmod (a : Int) 10)) % 256] : List Int)) = [UInt8.ofNat (48 + a % 10)] := by
  rw [bl_nums]
  simp only [List.map_cons, List.map_nil]
  rw [show Int.tmod (a : Int) 10 = ((a % 10 : Nat) : Int) by rw [Int.tmod_eq_emod_of_nonneg (by omega)]; omega, wrap_id (by omega) (by omega), show (48 + ((a % 10 : Nat) : Int)) % 256 = ((48 + a % 10 : Nat) : Int) by omega, Int.toNat_natCast]
theorem piOf_l0 : ∀ (n x : Nat) (out : ByteArray), x ≤ 1000000 → out.size + n ≤ 1000 → Ev (fun k => spec_piOf.l0 k (x : Int) (n : Int) out) (tx n x ++ out)
  | 0, x, out, hx, ho => by
    apply Ev.succ; simp only [spec_piOf.l0]
    refine Ev.neg (by omega) (Ev.const ?_)
    exact congrArg some (bl_inj (by rw [bl_append, bl_tx]; rfl))
  | n + 1, x, out, hx, ho => by
    have hd := num_bl x
    have hs : (strOfNums ([(wrap64 (48 + Int.tmod (x : Int) 10)) % 256] : List Int)).size = 1 := by rw [bl_len, hd]; rfl
    have hz : (strOfNums ([(wrap64 (48 + Int.tmod (x : Int) 10)) % 256] : List Int) ++ out).size = 1 + out.size := by rw [ByteArray.size_append, hs]
    have ih := piOf_l0 n (x / 10) (strOfNums ([(wrap64 (48 + Int.tmod (x : Int) 10)) % 256] : List Int) ++ out) (by omega) (by omega)
    have ht : Int.tmod (x : Int) 10 < 10 := by rw [Int.tmod_eq_emod_of_nonneg (by omega)]; omega
    apply Ev.succ; simp only [spec_piOf.l0]
    refine Ev.pos (by omega) (Ev.bind (a := strOfNums ([(wrap64 (48 + Int.tmod (x : Int) 10)) % 256] : List Int)) ?_ (Ev.pos (by rw [hs]; omega) ?_))
    · apply Ev.succ; simp only [spec_l1Num.f]
      exact Ev.pos ht (Ev.now _)
    · rw [show wrap64 (Int.tdiv (x : Int) 10) = ((x / 10 : Nat) : Int) by rw [Int.tdiv_eq_ediv_of_nonneg (by omega), wrap_id (by omega) (by omega)]; omega, show wrap64 (((n + 1 : Nat) : Int) - 1) = (n : Int) by rw [wrap_id (by omega) (by omega)]; omega]
      have e : tx (n + 1) x ++ out = tx n (x / 10) ++ (strOfNums ([(wrap64 (48 + Int.tmod (x : Int) 10)) % 256] : List Int) ++ out) := bl_inj (by rw [bl_append, bl_append, bl_append, bl_tx, bl_tx, hd, dg]; simp)
      rw [e]
      exact ih
theorem piOf_ev (n x : Nat) (hn : n ≤ 4) (hx : x ≤ 1000000) : Ev (fun k => spec_piOf.f k (x : Int) (n : Int)) (tx n x) := by
  unfold spec_piOf.f
  have h := piOf_l0 n x (⟨#[]⟩ : ByteArray) hx (by show 0 + n ≤ _; omega)
  have e : tx n x ++ (⟨#[]⟩ : ByteArray) = tx n x := bl_inj (by rw [bl_append, bl_empty, List.append_nil])
  rwa [e] at h
/-! All texts. -/
theorem dig_ext (d : Nat) (hd : d < 10) : bl ((⟨#[48, 49, 50, 51, 52, 53, 54, 55, 56, 57]⟩ : ByteArray).extract d (d + 1)) = [UInt8.ofNat (48 + d)] := by
  have : ∀ e : Fin 10, bl ((⟨#[48, 49, 50, 51, 52, 53, 54, 55, 56, 57]⟩ : ByteArray).extract e.val (e.val + 1)) = [UInt8.ofNat (48 + e.val)] := by decide +kernel
  exact this ⟨d, hd⟩
theorem rdS (l : List ByteArray) (j : Nat) (h : j < l.length) : rdOf ByteArray.empty l (j : Int) = l[j] := by unfold rdOf; simp [List.getD, h]
section
variable (n : Nat) (hn : n ≤ 4)
include hn
theorem all_l2 (r : Nat) (hr : r < n) (i : Nat) (hi : i < 10 ^ r) (R : List ByteArray) (hR : Ev (fun k => impl_allTexts.l1 k 10 ((List.range (10 * (i + 1))).map (tx (r + 1))) (n : Int) (r : Int) (allT r) ((10 ^ r : Nat) : Int) ((i + 1 : Nat) : Int)) R) : ∀ (e d : Nat), d + e = 10 →
    Ev (fun k => impl_allTexts.l2 k 10 ((List.range (10 * i + d)).map (tx (r + 1))) (tx r i) (n : Int) (r : Int) (allT r) ((10 ^ r : Nat) : Int) (i : Int) 10 (d : Int)) R
  | 0, d, hd => by
    have hp := pow4 (n := r) (by omega)
    obtain rfl : d = 10 := by omega
    apply Ev.succ; simp only [impl_allTexts.l2]
    refine Ev.neg (by omega) ?_
    rw [show wrap64 ((i : Int) + 1) = ((i + 1 : Nat) : Int) by rw [wrap_id (by omega) (by omega)]; omega, show 10 * i + 10 = 10 * (i + 1) by omega]
    exact hR
  | e + 1, d, hd => by
    have hp := pow4 (n := r) (by omega)
    have ih := all_l2 r hr i hi R hR e (d + 1) (by omega)
    have hx := dig_ext d (by omega)
    have e1 : wrap64 ((d : Int) + 1) = ((d + 1 : Nat) : Int) := by rw [wrap_id (by omega) (by omega)]; omega
    have ht : tx r i ++ (⟨#[48, 49, 50, 51, 52, 53, 54, 55, 56, 57]⟩ : ByteArray).extract d (d + 1) = tx (r + 1) (10 * i + d) := bl_inj (by rw [bl_append, hx, bl_tx, bl_tx, dg, show (10 * i + d) / 10 = i by omega, show (10 * i + d) % 10 = d by omega])
    have hz : (tx r i).size + ((⟨#[48, 49, 50, 51, 52, 53, 54, 55, 56, 57]⟩ : ByteArray).extract d (d + 1)).size ≤ 9223372036854775807 := by rw [tx_size, bl_len (ByteArray.extract _ _ _), hx, List.length_singleton]; omega
    rw [show 10 * i + (d + 1) = 10 * i + d + 1 by omega, List.range_succ, List.map_append, List.map_singleton, ← ht] at ih
    apply Ev.succ; simp only [impl_allTexts.l2, e1, Int.toNat_natCast, List.length_map, List.length_range]
    refine Ev.pos (by omega) (Ev.pos (by omega) (Ev.pos (by omega) (Ev.pos (by omega) (Ev.pos hz (Ev.pos (by omega) ?_)))))
    exact ih
theorem all_l1 (r : Nat) (hr : r < n) (R : List ByteArray) (hR : Ev (fun k => impl_allTexts.l0 k 10 (allT (r + 1)) (n : Int) ((r + 1 : Nat) : Int)) R) : ∀ (e i : Nat), i + e = 10 ^ r →
    Ev (fun k => impl_allTexts.l1 k 10 ((List.range (10 * i)).map (tx (r + 1))) (n : Int) (r : Int) (allT r) ((10 ^ r : Nat) : Int) (i : Int)) R
  | 0, i, hi => by
    apply Ev.succ; simp only [impl_allTexts.l1]
    refine Ev.neg (by omega) ?_
    rw [show wrap64 ((r : Int) + 1) = ((r + 1 : Nat) : Int) by rw [wrap_id (by omega) (by omega)]; omega, show 10 * i = 10 ^ (r + 1) by rw [Nat.pow_succ]; omega]
    exact hR
  | e + 1, i, hi => by
    have hl := all_l2 n hn r hr i (by omega) R (all_l1 r hr R hR e (i + 1) (by omega)) 10 0 (by omega)
    have ha : (allT r).length = 10 ^ r := allT_len r
    apply Ev.succ; simp only [impl_allTexts.l1, ha]
    refine Ev.pos (by omega) (Ev.pos (by omega) (Ev.pos (by omega) ?_))
    rw [rdS _ i (by omega)]
    rw [show (allT r)[i]'(by omega) = tx r i by unfold allT; simp]
    exact hl
theorem all_l0 : ∀ (e r : Nat), r + e = n → Ev (fun k => impl_allTexts.l0 k 10 (allT r) (n : Int) (r : Int)) (allT n)
  | 0, r, hr => by
    apply Ev.succ; simp only [impl_allTexts.l0]
    refine Ev.neg (by omega) (Ev.const ?_)
    rw [show r = n by omega]
  | e + 1, r, hr => by
    have h := all_l1 n hn r (by omega) (allT n) (all_l0 e (r + 1) (by omega)) (10 ^ r) 0 (by omega)
    apply Ev.succ; simp only [impl_allTexts.l0, allT_len]
    exact Ev.pos (by omega) h
theorem allTexts_ev : Ev (fun k => impl_allTexts.f k 10 (n : Int)) (allT n) := by
  unfold impl_allTexts.f
  have h := all_l0 n hn n 0 (by omega)
  have e : allT 0 = [(⟨#[]⟩ : ByteArray)] := by
    unfold allT
    simp only [Nat.pow_zero, List.range_one, List.map_cons, List.map_nil]
    congr 1
  rw [e] at h
  exact h
end
/-- Do all guesses tell of a pin what they tell? -/
def fitB (l : List IG) (pin : ByteArray) : Bool := l.all fun g => decide (hitsP (bl pin) (bl g.f0) = (g.f1, g.f2))
section
variable (l : List IG) (n : Nat) (hn : n ≤ 4) (hl : l.length ≤ 10) (hg : ∀ g ∈ l, (bl g.f0).length = n)
include hn hl hg
theorem left_l2 (acc : List ByteArray) (ha : acc.length ≤ 10000) (x5 : Int) (v : Nat) (hv : v ≤ 10000) (R : List ByteArray) (hR : Ev (fun k => spec_piLeft.l1 k l (if fitB l (tx n v) = true then acc ++ [tx n v] else acc) (n : Int) x5 ((v + 1 : Nat) : Int)) R) :
    ∀ (e i : Nat) (b : Bool), i + e = l.length → ((b && (l.drop i).all fun g => decide (hitsP (bl (tx n v)) (bl g.f0) = (g.f1, g.f2))) = fitB l (tx n v)) → Ev (fun k => spec_piLeft.l2 k l acc (n : Int) x5 (v : Int) (tx n v) b l (l.length : Int) (i : Int)) R
  | 0, i, b, hi, hb => by
    rw [List.drop_of_length_le (by omega), List.all_nil, Bool.and_true] at hb
    rw [← hb] at hR
    apply Ev.succ; simp only [spec_piLeft.l2]
    refine Ev.neg (by omega) ?_
    have ev : wrap64 ((v : Int) + 1) = ((v + 1 : Nat) : Int) := by rw [wrap_id (by omega) (by omega)]; omega
    rw [ev]
    cases b with
    | true => rw [if_pos rfl] at hR; exact Ev.pos rfl (Ev.pos (by omega) hR)
    | false => rw [if_neg (by decide)] at hR; exact Ev.neg (by decide) hR
  | e + 1, i, b, hi, hb => by
    have hlt : i < l.length := by omega
    have e1 : wrap64 ((i : Int) + 1) = ((i + 1 : Nat) : Int) := by rw [wrap_id (by omega) (by omega)]; omega
    rw [List.drop_eq_getElem_cons hlt, List.all_cons] at hb
    have hits := piHits_ev (tx n v) l[i].f0 (by rw [bl_tx, dg_len, hg _ (List.getElem_mem hlt)]) (by rw [bl_tx, dg_len]; exact hn)
    apply Ev.succ; simp only [spec_piLeft.l2]
    refine Ev.pos (by omega) (Ev.pos (by omega) (Ev.pos (by omega) ?_))
    rw [rdI l i hlt, e1]
    generalize hitsP (bl (tx n v)) (bl l[i].f0) = q at hits hb
    cases b with
    | true =>
      refine Ev.pos rfl (Ev.bind hits ?_)
      by_cases c : q.1 = l[i].f1
      · refine Ev.pos c ?_
        refine left_l2 acc ha x5 v hv R hR e (i + 1) _ (by omega) ?_
        rw [← hb, Bool.true_and]
        congr 1
        rw [Bool.eq_iff_iff, decide_eq_true_iff, beq_iff_eq, Prod.ext_iff]
        exact ⟨fun h => ⟨c, h⟩, fun h => h.2⟩
      · refine Ev.neg c ?_
        refine left_l2 acc ha x5 v hv R hR e (i + 1) _ (by omega) ?_
        rw [← hb, decide_eq_false (fun h => c (by rw [h]))]
        rfl
    | false =>
      refine Ev.neg (by decide) ?_
      exact left_l2 acc ha x5 v hv R hR e (i + 1) _ (by omega) (by rw [← hb]; rfl)
theorem left_l1 : ∀ (e v : Nat), v + e = 10 ^ n → Ev (fun k => spec_piLeft.l1 k l (((List.range v).map (tx n)).filter (fitB l)) (n : Int) ((10 ^ n : Nat) : Int) (v : Int)) ((allT n).filter (fitB l))
  | 0, v, hv => by
    apply Ev.succ; simp only [spec_piLeft.l1]
    refine Ev.neg (by omega) (Ev.const ?_)
    rw [show v = 10 ^ n by omega]; rfl
  | e + 1, v, hv => by
    have hp := pow4 hn
    have ih := left_l1 e (v + 1) (by omega)
    have hf : ((List.range (v + 1)).map (tx n)).filter (fitB l) = if fitB l (tx n v) = true then ((List.range v).map (tx n)).filter (fitB l) ++ [tx n v] else ((List.range v).map (tx n)).filter (fitB l) := by
      rw [List.range_succ, List.map_append, List.filter_append]
      cases hh : fitB l (tx n v) <;> simp [hh]
    rw [hf] at ih
    have ha : (((List.range v).map (tx n)).filter (fitB l)).length ≤ 10000 := by
      have := List.length_filter_le (fitB l) ((List.range v).map (tx n))
      rw [List.length_map, List.length_range] at this
      omega
    apply Ev.succ; simp only [spec_piLeft.l1]
    refine Ev.pos (by omega) (Ev.bind (piOf_ev n v hn (by omega)) ?_)
    exact left_l2 l n hn hl hg _ ha _ v (by omega) _ ih l.length 0 true (by omega) (by rw [List.drop_zero, Bool.true_and]; rfl)
theorem left_l0 : ∀ (e i : Nat), i + e = n → Ev (fun k => spec_piLeft.l0 k l (n : Int) ((10 ^ i : Nat) : Int) (i : Int)) ((allT n).filter (fitB l))
  | 0, i, hi => by
    apply Ev.succ; simp only [spec_piLeft.l0]
    refine Ev.neg (by omega) ?_
    obtain rfl : i = n := by omega
    exact left_l1 l i hn hl hg (10 ^ i) 0 (by omega)
  | e + 1, i, hi => by
    have hp := pow4 (n := i) (by omega)
    have ih := left_l0 e (i + 1) (by omega)
    apply Ev.succ; simp only [spec_piLeft.l0]
    refine Ev.pos (by omega) ?_
    have ex : wrap64 (((10 ^ i : Nat) : Int) * 10) = ((10 ^ (i + 1) : Nat) : Int) := by
      rw [Nat.pow_succ]
      generalize 10 ^ i = P at hp
      rw [wrap_id (by omega) (by omega)]; omega
    rw [ex, show wrap64 ((i : Int) + 1) = ((i + 1 : Nat) : Int) by rw [wrap_id (by omega) (by omega)]; omega]
    exact ih
theorem piLeft_ev (h0 : 0 < l.length) (hz : (rd_T62 l 0).f0.size = n) : Ev (fun k => spec_piLeft.f k l) ((allT n).filter (fitB l)) := by
  unfold spec_piLeft.f
  rw [hz]
  exact Ev.pos (by omega) (left_l0 l n hn hl hg n 0 (by omega))
theorem not11_eq (pin : ByteArray) (hp : (bl pin).length = n) (g : IG) (hm : g ∈ l) : impl_pinsLeft_1_1.f g.f0 g.f1 g.f2 pin = some (!decide (hitsP (bl pin) (bl g.f0) = (g.f1, g.f2))) := by
  unfold impl_pinsLeft_1_1.f
  rw [hitsOf_eq pin g.f0 (by rw [hp, hg g hm]) (by omega)]
  generalize hitsP (bl pin) (bl g.f0) = q
  simp only [Option.bind_some]
  by_cases c : q.1 = g.f1
  · rw [if_pos c]
    congr 1
    rw [bne, Bool.eq_iff_iff]
    simp only [Bool.not_eq_true', beq_eq_false_iff_ne, decide_eq_false_iff_not, Prod.ext_iff, not_and, ne_eq]
    exact ⟨fun h _ => h, fun h => h c⟩
  · rw [if_neg c, decide_eq_false (fun h => c (by rw [h]))]; rfl
theorem not1_ev (pin : ByteArray) (hp : (bl pin).length = n) : Ev (fun k => impl_pinsLeft_1.f k pin l) (fitB l pin) := by
  unfold impl_pinsLeft_1.f
  refine Ev.bind (anyG_ev l (by omega) _ (fun g => !decide (hitsP (bl pin) (bl g.f0) = (g.f1, g.f2))) (fun g hm => not11_eq l n hn hl hg pin hp g hm)) (Ev.const ?_)
  congr 1
  unfold fitB
  rw [← List.not_all_eq_any_not, Bool.not_not]
end
theorem ev_list {α β : Type} (F : Nat → α → Option β) (b : α → β) : ∀ xs : List α, (∀ x ∈ xs, Ev (fun k => F k x) (b x)) → ∃ K, ∀ k, K ≤ k → ∀ x ∈ xs, F k x = some (b x)
  | [], _ => ⟨0, fun _ _ _ h => by cases h⟩
  | x :: xs, h => by
    obtain ⟨K1, h1⟩ := h x List.mem_cons_self
    obtain ⟨K2, h2⟩ := ev_list F b xs (fun y hy => h y (List.mem_cons_of_mem _ hy))
    refine ⟨max K1 K2, fun k hk y hy => ?_⟩
    rcases List.mem_cons.1 hy with rfl | hy
    · exact h1 k (by omega)
    · exact h2 k (by omega) y hy
theorem picked_ev (F : Nat → ByteArray → Option Bool) (b : ByteArray → Bool) (xs : List ByteArray) (hl : xs.length ≤ 8796093022208) (h : ∀ x ∈ xs, Ev (fun k => F k x) (b x)) : Ev (fun k => impl_picked.f xs (F k)) (xs.filter b) := by
  obtain ⟨K, hK⟩ := ev_list F b xs h
  refine ⟨K, fun k hk => ?_⟩
  have e := hK k hk
  show impl_picked.f xs (F k) = _
  unfold impl_picked.f
  rw [if_pos ⟨hl, by rw [List.all_eq_true]; intro x hx; rw [e x hx]; rfl⟩]
  congr 1
  exact List.filter_congr fun x hx => by rw [e x hx]; rfl
theorem pinsLeft_ev (l : List IG) (n : Nat) (hn : n ≤ 4) (hl : l.length ≤ 10) (hg : ∀ g ∈ l, (bl g.f0).length = n) (h0 : 0 < l.length) (hz : (rd_T62 l 0).f0.size = n) : Ev (fun k => impl_pinsLeft.f k l) ((allT n).filter (fitB l)) := by
  unfold impl_pinsLeft.f
  rw [hz]
  have hp := pow4 hn
  refine Ev.pos (by omega) (Ev.bind (allTexts_ev n hn) (Ev.bind (picked_ev _ (fitB l) _ (by rw [allT_len]; omega) (fun x hx => ?_)) (Ev.now _)))
  unfold allT at hx
  obtain ⟨v, -, rfl⟩ := List.mem_map.1 hx
  exact not1_ev l n hn hl hg _ (by rw [bl_tx, dg_len])
/-- Both sides, of guesses. -/
theorem left_both (l : List IG) (h : guessesB l = true) : ∃ r, Ev (fun k => spec_piLeft.f k l) r ∧ Ev (fun k => impl_pinsLeft.f k l) r ∧ r.length ≤ 10000 := by
  unfold guessesB at h
  simp only [Bool.and_eq_true, decide_eq_true_eq, List.all_eq_true] at h
  obtain ⟨⟨h1, h2⟩, h3⟩ := h
  have e0 := rdI l 0 (by omega)
  rw [show ((0 : Nat) : Int) = 0 from rfl] at e0
  have hok := h3 _ (List.getElem_mem (show 0 < l.length by omega))
  unfold okG at hok
  simp only [Bool.and_eq_true, decide_eq_true_eq] at hok
  obtain ⟨p1, p2, -⟩ := pinB_len hok.1.1.1
  have hz : (rd_T62 l 0).f0.size = (bl l[0].f0).length := by rw [e0]; rfl
  have hg : ∀ g ∈ l, (bl g.f0).length = (bl l[0].f0).length := by
    intro g hm
    have hk := h3 g hm
    unfold okG at hk
    simp only [Bool.and_eq_true, decide_eq_true_eq] at hk
    have := hk.1.1.2
    rw [hz] at this
    exact this
  refine ⟨_, piLeft_ev l _ p2 h2 hg (by omega) hz, pinsLeft_ev l _ p2 h2 hg (by omega) hz, ?_⟩
  have := List.length_filter_le (fitB l) (allT (bl l[0].f0).length)
  rw [allT_len] at this
  have := pow4 p2
  omega
end Go.Proofs.YtjnkfnabbekinaaDoor

namespace Go.Proofs.YtjnkfnabbekinaaDoor
open Go.RowKit Go.Proofs.YtjnkfnabbekinaaDoor.P Go.Proofs.YtjnkfnabbekinaaDoorW.PrintWords
set_option linter.unusedSimpArgs false
set_option linter.unusedVariables false
/-! Lists of texts: what the laws do with them. -/
theorem rdB (l : List ByteArray) (j : Nat) (h : j < l.length) : rdOf ByteArray.empty l (j : Int) = l[j] := by unfold rdOf; simp [List.getD, h]
theorem eqSS_l0 (a : List ByteArray) (hl : a.length ≤ 9223372036854775806) : ∀ (d i : Nat), i + d = a.length → Ev (fun k => laws_eqStringS.l0 k a a i) true
  | 0, i, hi => by
    apply Ev.succ; simp only [laws_eqStringS.l0]
    exact Ev.neg (by omega) (Ev.now _)
  | d + 1, i, hi => by
    have ih := eqSS_l0 a hl d (i + 1) (by omega)
    apply Ev.succ; simp only [laws_eqStringS.l0]
    refine Ev.pos (by omega) (Ev.pos (by omega) (Ev.pos (by omega) (Ev.pos (by trivial) ?_)))
    rw [show wrap64 ((i : Int) + 1) = ((i + 1 : Nat) : Int) by rw [wrap_id (by omega) (by omega)]; omega]
    exact ih
theorem eqSS_ev (a : List ByteArray) (hl : a.length ≤ 9223372036854775806) : Ev (fun k => laws_eqStringS.f k a a) true := by
  unfold laws_eqStringS.f
  exact Ev.pos rfl (eqSS_l0 a hl a.length 0 (by omega))
theorem markText_l0 : ∀ (n x : Nat) (out : ByteArray), x ≤ n → out.size + x ≤ 4611686018427387904 → ∃ t, Ev (fun k => laws_markText.l0 k (x : Int) out) t
  | 0, x, out, hx, ho => by
    obtain rfl : x = 0 := by omega
    refine ⟨(⟨#[109]⟩ : ByteArray) ++ out, Ev.succ ?_⟩
    simp only [laws_markText.l0]
    exact Ev.neg (by omega) (Ev.pos (by omega) (Ev.now _))
  | n + 1, x, out, hx, ho => by
    by_cases c : 0 < x
    · have hs : (strOfNums ([(wrap64 (48 + (Int.tmod (x : Int) 10))) % 256] : List Int)).size = 1 := by rw [strOfNums_size]; rfl
      have hs2 : (strOfNums ([(wrap64 (48 + (Int.tmod (x : Int) 10))) % 256] : List Int) ++ out).size = 1 + out.size := by rw [ByteArray.size_append, hs]
      obtain ⟨t, ht⟩ := markText_l0 n (x / 10) (strOfNums ([(wrap64 (48 + (Int.tmod (x : Int) 10))) % 256] : List Int) ++ out) (by omega) (by omega)
      refine ⟨t, Ev.succ ?_⟩
      simp only [laws_markText.l0]
      refine Ev.pos (by omega) (Ev.bindc rfl (Ev.pos (by rw [hs]; omega) ?_))
      rw [show wrap64 (Int.tdiv (x : Int) 10) = ((x / 10 : Nat) : Int) by rw [Int.tdiv_eq_ediv_of_nonneg (by omega), wrap_id (by omega) (by omega)]; omega]
      exact ht
    · obtain rfl : x = 0 := by omega
      refine ⟨(⟨#[109]⟩ : ByteArray) ++ out, Ev.succ ?_⟩
      simp only [laws_markText.l0]
      exact Ev.neg (by omega) (Ev.pos (by omega) (Ev.now _))
theorem markText_ev (x : Nat) (hx : x ≤ 4611686018427387904) : ∃ t, Ev (fun k => laws_markText.f k (x : Int)) t := by
  unfold laws_markText.f
  by_cases c : x = 0
  · exact ⟨_, Ev.pos (by omega) (Ev.now _)⟩
  · obtain ⟨t, ht⟩ := markText_l0 x x (⟨#[]⟩ : ByteArray) (Nat.le_refl _) (by show 0 + x ≤ _; omega)
    exact ⟨t, Ev.neg (by omega) ht⟩
theorem marks : ∃ M : Nat → ByteArray, ∀ x : Nat, x ≤ 4611686018427387904 → Ev (fun k => laws_markText.f k (x : Int)) (M x) := by
  refine ⟨fun x => if h : x ≤ 4611686018427387904 then Classical.choose (markText_ev x h) else ByteArray.empty, fun x hx => ?_⟩
  simp only [dif_pos hx]
  exact Classical.choose_spec (markText_ev x hx)
section
variable (M : Nat → ByteArray) (hM : ∀ x : Nat, x ≤ 4611686018427387904 → Ev (fun k => laws_markText.f k (x : Int)) (M x))
include hM
theorem markSS_l0 : ∀ (d i : Nat) (l : List ByteArray), i + d = l.length → l.length ≤ 1000000000 → l.take i = (List.range i).map (fun j => M (1 + j)) → Ev (fun k => laws_markStringS.l0 k l ((1 + i : Nat) : Int) (i : Int)) (((1 + l.length : Nat) : Int), (List.range l.length).map (fun j => M (1 + j)))
  | 0, i, l, hi, hl, ht => by
    apply Ev.succ; simp only [laws_markStringS.l0]
    refine Ev.neg (by omega) (Ev.const ?_)
    obtain rfl : i = l.length := by omega
    rw [List.take_length] at ht
    rw [← ht]
  | d + 1, i, l, hi, hl, ht => by
    have hlt : i < l.length := by omega
    have ih := markSS_l0 d (i + 1) (l.set i (M (1 + i))) (by rw [List.length_set]; omega) (by rw [List.length_set]; omega) (by
      rw [List.take_succ_eq_append_getElem (by rw [List.length_set]; omega), List.take_set_of_le (Nat.le_refl _), ht, List.range_succ, List.map_append]; simp)
    rw [List.length_set] at ih
    apply Ev.succ; simp only [laws_markStringS.l0]
    refine Ev.pos (by omega) (Ev.bind (hM (1 + i) (by omega)) (Ev.pos (by omega) ?_))
    rw [Int.toNat_natCast, show wrap64 (((1 + i : Nat) : Int) + 1) = ((1 + (i + 1) : Nat) : Int) by rw [wrap_id (by omega) (by omega)]; omega, show wrap64 ((i : Int) + 1) = ((i + 1 : Nat) : Int) by rw [wrap_id (by omega) (by omega)]; omega]
    exact ih
theorem markSS_ev (l : List ByteArray) (hl : l.length ≤ 1000000000) : Ev (fun k => laws_markStringS.f k l 1) (((1 + l.length : Nat) : Int), (List.range l.length).map (fun j => M (1 + j))) := markSS_l0 M hM l.length 0 l (by omega) hl rfl
theorem heldSS_l0 (n : Nat) (hn : n ≤ 1000000000) : ∀ (d i : Nat), i + d = n → Ev (fun k => laws_heldStringS.l0 k ((List.range n).map (fun j => M (1 + j))) ((1 + i : Nat) : Int) (i : Int)) ((1 + n : Nat) : Int)
  | 0, i, hi => by
    apply Ev.succ; simp only [laws_heldStringS.l0, List.length_map, List.length_range]
    refine Ev.neg (by omega) (Ev.const ?_)
    rw [show i = n by omega]
  | d + 1, i, hi => by
    have ih := heldSS_l0 n hn d (i + 1) (by omega)
    apply Ev.succ; simp only [laws_heldStringS.l0, List.length_map, List.length_range]
    refine Ev.pos (by omega) (Ev.pos (by omega) (Ev.bind (hM (1 + i) (by omega)) (Ev.pos ?_ ?_)))
    · rw [rdB _ i (by simp; omega)]; simp
    · rw [show wrap64 (((1 + i : Nat) : Int) + 1) = ((1 + (i + 1) : Nat) : Int) by rw [wrap_id (by omega) (by omega)]; omega, show wrap64 ((i : Int) + 1) = ((i + 1 : Nat) : Int) by rw [wrap_id (by omega) (by omega)]; omega]
      exact ih
theorem heldSS_ev (n : Nat) (hn : n ≤ 1000000000) : Ev (fun k => laws_heldStringS.f k ((List.range n).map (fun j => M (1 + j))) 1) ((1 + n : Nat) : Int) := heldSS_l0 M hM n hn n 0 (by omega)
end
end Go.Proofs.YtjnkfnabbekinaaDoor

/- FnExactPinsLeft: both sides tell the same pins, the guesses are left as they were, and what is told is nobody else's: over the functions that the walk computes. -/
namespace Go.Proofs.YtjnkfnabbekinaaDoor
open Go.RowKit Go.Proofs.YtjnkfnabbekinaaDoor.P Go.Proofs.YtjnkfnabbekinaaDoorW.PrintWords
set_option linter.unusedSimpArgs false
set_option linter.unusedVariables false
theorem pins_both (l : List IG) (hl : l.length ≤ 1048576) (hm : ∀ g ∈ l, g.f0.size ≤ 1048576) : ∃ r : List ByteArray × Bool, Ev (fun k => spec_PinsLeft.f k l) r ∧ Ev (fun k => impl_PinsLeft.f k l) r ∧ r.1.length ≤ 200 := by
  unfold spec_PinsLeft.f impl_PinsLeft.f
  cases h : guessesB l with
  | false => exact ⟨([], false), Ev.bind (piGuesses_ev l hl hm) (by rw [h]; exact Ev.no (Ev.now _)), Ev.bind (areGuesses_ev l hl hm) (by rw [h]; exact Ev.no (Ev.now _)), Nat.zero_le _⟩
  | true =>
    obtain ⟨r, h1, h2, -⟩ := left_both l h
    by_cases c : (r.length : Int) > 200
    · exact ⟨([], false), Ev.bind (piGuesses_ev l hl hm) (by rw [h]; exact Ev.yes (Ev.bind h1 (Ev.pos c (Ev.now _)))), Ev.bind (areGuesses_ev l hl hm) (by rw [h]; exact Ev.yes (Ev.bind h2 (Ev.pos c (Ev.now _)))), Nat.zero_le _⟩
    · exact ⟨(r, true), Ev.bind (piGuesses_ev l hl hm) (by rw [h]; exact Ev.yes (Ev.bind h1 (Ev.neg c (Ev.now _)))), Ev.bind (areGuesses_ev l hl hm) (by rw [h]; exact Ev.yes (Ev.bind h2 (Ev.neg c (Ev.now _)))), by show r.length ≤ 200; omega⟩
theorem markG_l0 : ∀ (d i x : Nat) (l : List IG), i + d = l.length → l.length ≤ 1048576 → x ≤ 1 + 3 * i → ∃ r : Int × List IG, 0 ≤ r.1 ∧ Ev (fun k => laws_markGuessS.l0 k l (x : Int) (i : Int)) r
  | 0, i, x, l, hi, hl, hx => by
    refine ⟨((x : Int), l), by show (0 : Int) ≤ (x : Int); omega, ?_⟩
    apply Ev.succ; simp only [laws_markGuessS.l0]
    exact Ev.neg (by omega) (Ev.now _)
  | d + 1, i, x, l, hi, hl, hx => by
    obtain ⟨t, ht⟩ := markText_ev x (by omega)
    have e1 : wrap64 ((x : Int) + 1) = ((x + 1 : Nat) : Int) := by rw [wrap_id (by omega) (by omega)]; omega
    have e2 : wrap64 (((x + 1 : Nat) : Int) + 1) = ((x + 2 : Nat) : Int) := by rw [wrap_id (by omega) (by omega)]; omega
    have e3 : wrap64 (((x + 2 : Nat) : Int) + 1) = ((x + 3 : Nat) : Int) := by rw [wrap_id (by omega) (by omega)]; omega
    have e4 : wrap64 ((i : Int) + 1) = ((i + 1 : Nat) : Int) := by rw [wrap_id (by omega) (by omega)]; omega
    have step : ∀ Y : List IG, Y.length = l.length → ∃ r : Int × List IG, 0 ≤ r.1 ∧ Ev (fun k => laws_markGuessS.l0 k Y ((x + 3 : Nat) : Int) ((i + 1 : Nat) : Int)) r := fun Y hY => markG_l0 d (i + 1) (x + 3) Y (by omega) (by omega) (by omega)
    obtain ⟨Y1, hY1⟩ : ∃ Y1 : List IG, Y1 = l.set (i : Int).toNat ⟨t, (rdIG l (i : Int)).f1, (rdIG l (i : Int)).f2⟩ := ⟨_, rfl⟩
    obtain ⟨Y2, hY2⟩ : ∃ Y2 : List IG, Y2 = Y1.set (i : Int).toNat ⟨(rdIG Y1 (i : Int)).f0, ((x + 1 : Nat) : Int), (rdIG Y1 (i : Int)).f2⟩ := ⟨_, rfl⟩
    obtain ⟨Y3, hY3⟩ : ∃ Y3 : List IG, Y3 = Y2.set (i : Int).toNat ⟨(rdIG Y2 (i : Int)).f0, (rdIG Y2 (i : Int)).f1, ((x + 2 : Nat) : Int)⟩ := ⟨_, rfl⟩
    obtain ⟨r, hr, h⟩ := step Y3 (by rw [hY3, List.length_set, hY2, List.length_set, hY1, List.length_set])
    refine ⟨r, hr, ?_⟩
    apply Ev.succ; simp only [laws_markGuessS.l0, e1, e2, e3, e4]
    refine Ev.pos (by omega) (Ev.bind ht (Ev.pos (by omega) (Ev.bindc (congrArg some hY1.symm) (Ev.bindc (congrArg some hY2.symm) ?_))))
    rw [hY3] at h
    exact h
theorem markG_ev (l : List IG) (hl : l.length ≤ 1048576) : ∃ r : Int × List IG, 0 ≤ r.1 ∧ Ev (fun k => laws_markGuessS.f k l 1) r := markG_l0 l.length 0 1 l (by omega) hl (by omega)
theorem pure_FnExactPinsLeft : PureFnExactPinsLeft := by
  intro l hl
  obtain ⟨r, hr, hb⟩ := szG_ev l hl.1 (fun g hg => (hl.2 g hg).1)
  refine Ev.rounds (g := fun k => laws_FnExactPinsLeft.f k l) ?_
  unfold laws_FnExactPinsLeft.f
  refine Ev.bind hr ?_
  by_cases c : r < 0
  · exact Ev.pos c (Ev.now _)
  · obtain ⟨h1, h2⟩ := hb c
    have hm := mapG_sz h2
    have hl' : (l.map toG).length ≤ 1048576 := by simpa using h1
    obtain ⟨q, q1, q2, q3⟩ := pins_both _ hl' hm
    obtain ⟨g, g0, g1⟩ := markG_ev (l.map toG) hl'
    obtain ⟨M, hM⟩ := marks
    have eq := eqSS_ev q.1 (by omega)
    have mk := markSS_ev M hM q.1 (by omega)
    have hd := heldSS_ev M hM q.1.length (by omega)
    refine Ev.neg c (Ev.bind (toG_ev l h1) (Ev.bind q1 (Ev.bind (toG_ev l h1) (Ev.bind q2 (Ev.bind eq (Ev.pos rfl ?_))))))
    apply Ev.succ
    simp only [laws_FnExactPinsLeft.j0]
    refine Ev.neg (by simp) (Ev.bind (toG_ev l h1) (Ev.bind (eqG_ev _ hl') (Ev.pos rfl (Ev.bind g1 (Ev.neg (by omega) (Ev.bind eq (Ev.pos rfl ?_)))))))
    apply Ev.succ
    simp only [laws_FnExactPinsLeft.j1]
    refine Ev.neg (by simp) (Ev.bind mk (Ev.bind hd (Ev.neg (by omega) (Ev.pos rfl (Ev.bind (toG_ev l h1) (Ev.bind q2 (Ev.bind eq (Ev.pos rfl ?_))))))))
    apply Ev.succ
    simp only [laws_FnExactPinsLeft.j2]
    exact Ev.neg (by simp) (Ev.bind hd (Ev.neg (by omega) (Ev.pos rfl (Ev.now _))))
end Go.Proofs.YtjnkfnabbekinaaDoor

/- FnExactPinsLeftCardSaid: the law 'FnExactPinsLeft' answers true for every input, and leaves its arguments as they were. The row and its tied card, over the walk of its calls and the pure statement. -/
namespace Go.Proofs.YtjnkfnabbekinaaDoor.fnExactPinsLeft
open Go.ChangeShapes Go.WideShapes Go.ChangeAt Go.RowKit Go.Proofs.YtjnkfnabbekinaaDoor.P Go.Proofs.YtjnkfnabbekinaaDoorW.PrintWords
open Go.ChangeMaps (open_string shut_string)
set_option linter.unusedVariables false
theorem own : ownKnob Tryd.prog.godebug = none := by kernel_rfl
theorem laidOut : laidOutB Tryd.prog = true := by kernel_rfl
/-- What the row lists of package-level variables. -/
noncomputable def laidList : List (String × DataW Unit) := [("unicode/utf8.acceptRanges", Rows.laid_unicode_utf8_acceptRanges), ("unicode/utf8.first", Rows.laid_unicode_utf8_first)]
/-- A world that meets it: the settled one, the listed variables laid. -/
noncomputable def laidWorld (os : Os) : World :=
  let w0 := World.holding Tryd.prog os ⟨#[], #[], []⟩
  { w0 with heap := ((w0.heap.modify 2 fun o => match o with | .cells _ t frozen => .cells (litsOf Rows.laid_unicode_utf8_acceptRanges).toArray t frozen | o => o).modify 1 fun o => match o with | .cells _ t frozen => .cells (litsOf Rows.laid_unicode_utf8_first).toArray t frozen | o => o) }
theorem laidWorld_met (os : Os) (args : Array Value) : laidMetH Tryd.prog laidList ((laidWorld os).forCall (fun _ _ => 0) ⟨#[], args, []⟩).memory :=
  laidMetH_of_parts3 (fuel := 8) (laidMet_of_run' 8 (by kernel_rfl) (by kernel_rfl)) (by kernel_rfl) (by kernel_rfl)
set_option maxRecDepth 100000 in
theorem lifted (os : Os) (started : os.Started) (H : Type) (enc : TypeId × Value → H) :
    ReturnsInHanded {} Tryd.checked os 10 .any (fun w args => (Rows.fnExactPinsLeftSpec.pre enc Tryd.prog Tryd.f10 [] false w args ∧ laidMetH Tryd.prog laidList w) ∧ sizedMet enc Tryd.prog Tryd.f10 (OpenSpec.ofChange Rows.fnExactPinsLeftSpec) false w args)
      (Rows.fnExactPinsLeftSpec.post enc Tryd.prog Tryd.f10 false true false false) := by
  refine returnsInHanded_of_change_and (C := Tryd.checked) (X := fun w _ => laidMetH Tryd.prog laidList w) (fun _ _ _ hh h => h.of_heap hh) own started (by kernel_rfl) Tryd.func10
    (ChangeSpec.witness_at (enc := enc) (C := Tryd.checked) (os := os) (X := fun w _ => laidMetH Tryd.prog laidList w) false (laidWorld os) #[.slice none 0 0] 8 rfl (by kernel_rfl) (by kernel_rfl) (by kernel_rfl) (by kernel_rfl) (by kernel_rfl) (laidWorld_met os _)) ?_
  intro W base args ds gs before hval0 hW _ _ hL _
  have hval : ∀ (j : Nat) t v, Tryd.f10.params[j]? = some t → args[j]? = some v → Value.okWide Tryd.prog W .any base t v := hval0
  have hW' := hW
  obtain ⟨p, q, hA0, hV, rfl, hfz, hnd⟩ := hW
  have hA : DataW.TrodAll enc Tryd.prog W 0 (fun _ => true) true Tryd.f10.params.toList args.toList ds p := hA0
  rw [Tryd.params10] at hA hval
  obtain ⟨v0, vs0, d0, ds0, p0, q0, hargs, rfl, rfl, h0, r0⟩ := trodAll_cons hA
  obtain ⟨rfl, rfl, rfl⟩ := trodAll_nil r0
  obtain rfl : args = #[v0] := by cases args; simp_all
  obtain ⟨rfl, rfl⟩ := trodVars_none hV
  have k0 := h0
  have lt0 : ∀ x ∈ p0, x.block < W.heap.size := by obtain ⟨m, hm⟩ := k0; exact DataW.trod_lt m _ _ _ hm
  obtain ⟨a0, len0, cap0, rfl⟩ := okWide_slice Tryd.underlying31 (hval 0 31 v0 rfl rfl)
  obtain ⟨fu0, hf0⟩ := h0
  have hg0 : DataW.trod enc Tryd.prog W 0 (fun _ => true) true fu0 31 [.slice a0 len0 cap0] = some (d0, p0) := by simpa [Value.cells] using hf0
  clear hf0
  obtain ⟨vv0, hvv0⟩ : ∃ v, v = Value.slice a0 len0 cap0 := ⟨_, rfl⟩
  rw [← hvv0] at hg0 hW' k0 ⊢
  obtain ⟨A0, c0, l0, rfl, hc0, hw0, hr0⟩ := read_s61 Tryd.underlying31 hg0
  clear hA0 hval0
  obtain ⟨k, hk⟩ := pure_FnExactPinsLeft l0 ⟨hr0.2.1, hw0⟩
  refine (laws_FnExactPinsLeft.calls k A0 c0 l0 true W hr0 hc0 hk).mono fun e W' ⟨he, bel0⟩ => ?_
  have bel : Below W.heap.size W W' := bel0
  subst he
  exact ⟨_, rfl, _, _, _, [], _, [], hW', trodAll_mk1 (shut_bool Tryd.underlying4 _), (trodAll_cons_mk (Below.trod laidOut (by kernel_rfl) (of_decide_eq_true (by kernel_rfl)) k0 bel lt0) trodAll_mk0), rfl, bel.frame _, fun h => by cases h⟩
theorem over : Rows.fnExactPinsLeftRow.holds Tryd.pinned (OpenSpec.ofChange Rows.fnExactPinsLeftSpec) :=
  OpenClaim.holds_of_wide 10 Tryd.f10 rfl rfl rfl rfl rfl rfl rfl ⟨rfl, rfl, rfl, rfl, rfl⟩ rfl rfl rfl rfl rfl (by kernel_rfl) Tryd.func10 (by kernel_rfl)
    (of_decide_eq_true (by kernel_rfl)) (by unfold Func.isWrapper; first | (rw [if_pos (by decide +kernel)]; kernel_rfl) | (rw [if_neg (by decide +kernel)]; exact ⟨rfl, rfl⟩))
    (fun os started H enc _ => lifted os started H enc)
theorem proved : Rows.FnExactPinsLeftSaid := over
theorem card : Rows.FnExactPinsLeftCardSaid :=
  Claim7.holds_tied_plain_at .later [] [.data, .pinned] true (true, "bbb317806ece47bd1f409602de2f7cd200ed85fc911e9c2255e6388d2bf5fb3c") false
    proved (fun _ h => by cases h) (by kernel_rfl) (fun _ h => by cases h) fnExactPinsLeft_row_tie rfl ⟨rfl, rfl⟩ (by kernel_rfl) rfl
    (fun f fn hf hfn => by
      obtain rfl : f = 10 := Option.some.inj ((show Tryd.prog.funcNamed "loop.example/g01350/laws.FnExactPinsLeft" = some 10 by kernel_rfl).symm.trans hf) |>.symm
      obtain rfl : fn = Tryd.f10 := (Option.some.inj (Tryd.func10.symm.trans hfn)).symm
      exact ⟨by kernel_rfl, fun j t ht => by
        rw [Tryd.params10] at ht
        have hm : t ∈ #[31] := Array.mem_of_getElem? ht
        have hm : t ∈ [31] := by simpa using hm
        have hall : ([31].all fun u => !Tryd.prog.wantsStandIn u) = true := by kernel_rfl
        exact (show Tryd.prog.wantsStandIn t = false by simpa using List.all_eq_true.1 hall t hm)⟩)
    (by kernel_rfl)
#print axioms card
end Go.Proofs.YtjnkfnabbekinaaDoor.fnExactPinsLeft
namespace Go.Proofs.YtjnkfnabbekinaaDoor
theorem fnExactPinsLeft_holds : Rows.FnExactPinsLeftCardSaid := fnExactPinsLeft.card
end Go.Proofs.YtjnkfnabbekinaaDoor

