/- Part 5 of 5 of the proof of: FnPatternsDrawnCardSaid: the law 'FnPatternsDrawn' answers true for every input, and leaves its arguments as they were. The row and its tied card, over the walk of its calls and the pure statement. -/
import Derived.Test.YtfhbclfmnliopaaGreatDoorMFnPatternsDrawn4
import Derived.Test.YtfhbclfmnliopaaGreatDoorMFnPatternsDrawn1
import Derived.Test.YtfhbclfmnliopaaGreatDoorMFnPatternsDrawn2
import Derived.Test.YtfhbclfmnliopaaGreatDoorMFnPatternsDrawn3
import Derived.Laws.BitsLemmas
import Derived.Laws.Bits64
import Derived.Test.YtfhbclfmnliopaaGreatDoorMFnPatternsDrawnW
import Derived.WalkKit
import Derived.ProofKit
import Derived.OpenShut
import Derived.ShutString
import Derived.ChangeOld
import Derived.Below
import Derived.SizedLaws
import Derived.ChangeSlices
import Derived.SliceStrings
import Derived.Lib.SmallJoins
import Derived.LaidLaws
import Derived.LaidHandle
import Derived.LaidMore
import Derived.Test.YtfhbclfmnliopaaGreatDoorRows
import Derived.Test.YtfhbclfmnliopaaGreatDoorCards
import Derived.Test.YtfhbclfmnliopaaGreatDoorTie
import Derived.Handed
import Derived.SevenTiedAt
import Derived.Stop.Joined
namespace Go.Proofs.YtfhbclfmnliopaaGreatDoor
open Go.RowKit Go.Proofs.YtfhbclfmnliopaaGreatDoor.P Go.Proofs.YtfhbclfmnliopaaGreatDoorW.PrintWords
set_option linter.unusedSimpArgs false
set_option linter.unusedVariables false
/-! Patterns: what one is, and whether it can be drawn. -/
def isPt (c : UInt8) : Bool := decide (49 ≤ c.toNat) && decide (c.toNat ≤ 57)
theorem pt_contains (c : UInt8) : ([49, 50, 51, 52, 53, 54, 55, 56, 57] : List UInt8).contains c = isPt c := by
  refine u8_all (fun c => ([49, 50, 51, 52, 53, 54, 55, 56, 57] : List UInt8).contains c = isPt c) ?_ c
  decide +kernel
/-- Is it a pattern? -/
def patB (l : List UInt8) : Bool := (decide (1 ≤ l.length) && decide (l.length ≤ 9)) && (l.all isPt && decide l.Nodup)
theorem len_in9 (n : Nat) : (decide ((1 : Int) ≤ (n : Int)) && decide ((n : Int) ≤ 9)) = (decide (1 ≤ n) && decide (n ≤ 9)) := by
  congr 1 <;> (rw [decide_eq_decide]; omega)
theorem isPattern_ev (s : ByteArray) (hs : s.size ≤ 1048576) : Ev (fun k => impl_isPattern.f k s) (patB (bl s)) := by
  unfold impl_isPattern.f patB
  refine Ev.bindc (in_eq _ _ _) ?_
  rw [len_in9, ← bl_len]
  cases h : (decide (1 ≤ s.size) && decide (s.size ≤ 9)) with
  | false => exact Ev.no (Ev.now _)
  | true =>
    simp only [Bool.and_eq_true, decide_eq_true_eq] at h
    rw [Bool.true_and]
    have ho := over_eq s (⟨#[49, 50, 51, 52, 53, 54, 55, 56, 57]⟩ : ByteArray) (by omega) (by decide) (by decide)
    have hc : (fun c => (bl (⟨#[49, 50, 51, 52, 53, 54, 55, 56, 57]⟩ : ByteArray)).contains c) = isPt := by funext c; exact pt_contains c
    rw [show (fun x => (bl (⟨#[49, 50, 51, 52, 53, 54, 55, 56, 57]⟩ : ByteArray)).contains x) = isPt from hc] at ho
    refine Ev.pos rfl (Ev.bindc ho ?_)
    cases (bl s).all isPt with
    | false => exact Ev.no (Ev.now _)
    | true =>
      obtain ⟨r, h1, h2, _⟩ := letters_ev s (by omega)
      refine Ev.pos rfl (Ev.bind h1 (Ev.const ?_))
      congr 1
      rw [Bool.true_and, Bool.eq_iff_iff, decide_eq_true_iff, beq_iff_eq, ← h2]
      omega
theorem bl_take (s : ByteArray) (i : Nat) : bl (s.extract 0 i) = (bl s).take i := by rw [bl_extract]; simp
theorem take_size (s : ByteArray) (i : Nat) (hs : s.size ≤ 1048576) : (s.extract 0 i).size ≤ 1048576 := by rw [ByteArray.size_extract]; omega
/-- Are the signs from a place on points, none of them ahead? -/
def chkP (l : List UInt8) : Nat → Nat → Bool
  | 0, _ => true
  | d + 1, i => (isPt (l.getD i 0) && !hasI (l.take i) ((l.getD i 0).toNat : Int)) && chkP l d (i + 1)
theorem chkP_iff (l : List UInt8) : ∀ (d i : Nat), i + d = l.length → (l.take i).all isPt = true → (l.take i).Nodup → (chkP l d i = true ↔ l.all isPt = true ∧ l.Nodup)
  | 0, i, hi, ha, hn => by
    rw [List.take_of_length_le (by omega)] at ha hn
    unfold chkP
    exact ⟨fun _ => ⟨ha, hn⟩, fun _ => rfl⟩
  | d + 1, i, hi, ha, hn => by
    have hlt : i < l.length := by omega
    unfold chkP
    rw [getD_at l i hlt, Bool.and_eq_true, Bool.and_eq_true]
    have ht := List.take_succ_eq_append_getElem hlt
    constructor
    · rintro ⟨⟨h1, h2⟩, h3⟩
      have hnm : l[i] ∉ l.take i := fun hm => by rw [(hasI_mem _ _).2 hm] at h2; cases h2
      refine (chkP_iff l d (i + 1) (by omega) ?_ ?_).1 h3
      · rw [ht, List.all_append, ha]; simp [h1]
      · rw [ht]
        rw [List.nodup_append]
        refine ⟨hn, by simp, fun a ha b hb => ?_⟩
        rw [List.mem_singleton.1 hb]
        exact fun e => hnm (e ▸ ha)
    · rintro ⟨h1, h2⟩
      have hsub : (l.take (i + 1)).Nodup := h2.sublist (List.take_sublist _ _)
      have hnm : l[i] ∉ l.take i := by
        rw [ht, List.nodup_append] at hsub
        exact fun hm => hsub.2.2 _ hm _ (by simp) rfl
      refine ⟨⟨List.all_eq_true.1 h1 _ (List.getElem_mem hlt), ?_⟩, ?_⟩
      · cases hh : hasI (l.take i) (l[i].toNat : Int) with
        | false => rfl
        | true => exact absurd ((hasI_mem _ _).1 hh) hnm
      · refine (chkP_iff l d (i + 1) (by omega) ?_ hsub).2 ⟨h1, h2⟩
        rw [List.all_eq_true] at h1 ⊢
        exact fun x hx => h1 x (List.mem_of_mem_take hx)
theorem piPattern_l0 (s : ByteArray) (hs : s.size ≤ 1048576) : ∀ (d i : Nat), i + d = (bl s).length → Ev (fun k => spec_piPattern.l0 k s (i : Int)) (chkP (bl s) d i)
  | 0, i, hi => by
    have es : s.size = (bl s).length := rfl
    apply Ev.succ; simp only [spec_piPattern.l0]
    exact Ev.neg (by omega) (Ev.now _)
  | d + 1, i, hi => by
    have es : s.size = (bl s).length := rfl
    have hlt : i < (bl s).length := by omega
    have ih := piPattern_l0 s hs d (i + 1) (by omega)
    have e1 : wrap64 ((i : Int) + 1) = ((i + 1 : Nat) : Int) := by rw [wrap_id (by omega) (by omega)]; omega
    have hh := piHas_ev (s.extract 0 i) (take_size s i hs) ((bl s)[i].toNat : Int)
    rw [bl_take] at hh
    apply Ev.succ; simp only [spec_piPattern.l0, e1, Int.toNat_natCast]
    unfold chkP
    rw [bt_nat s i hlt, getD_at _ i hlt]
    refine Ev.pos (by omega) (Ev.pos (by omega) ?_)
    by_cases c1 : ((bl s)[i].toNat : Int) < 49
    · refine Ev.pos c1 (Ev.const ?_)
      have : isPt (bl s)[i] = false := by unfold isPt; rw [Bool.and_eq_false_iff]; left; rw [decide_eq_false_iff_not]; omega
      rw [this]; rfl
    · refine Ev.neg c1 ?_
      by_cases c2 : ((bl s)[i].toNat : Int) > 57
      · refine Ev.pos c2 (Ev.const ?_)
        have : isPt (bl s)[i] = false := by unfold isPt; rw [Bool.and_eq_false_iff]; right; rw [decide_eq_false_iff_not]; omega
        rw [this]; rfl
      · have : isPt (bl s)[i] = true := by unfold isPt; rw [Bool.and_eq_true, decide_eq_true_eq, decide_eq_true_eq]; omega
        rw [this, Bool.true_and]
        refine Ev.neg c2 (Ev.pos (by omega) (Ev.bind hh ?_))
        cases hasI ((bl s).take i) ((bl s)[i].toNat : Int) with
        | true => exact Ev.pos rfl (Ev.now _)
        | false => exact Ev.neg (by decide) ih
theorem piPattern_ev (s : ByteArray) (hs : s.size ≤ 1048576) : Ev (fun k => spec_piPattern.f k s) (patB (bl s)) := by
  unfold spec_piPattern.f patB
  refine Ev.bindc (l1In_eq _ _ _) ?_
  rw [len_in9, ← bl_len]
  cases h : (decide (1 ≤ s.size) && decide (s.size ≤ 9)) with
  | false => exact Ev.no (Ev.now _)
  | true =>
    rw [Bool.true_and]
    have hc := chkP_iff (bl s) (bl s).length 0 (by omega) rfl List.Pairwise.nil
    have : ((bl s).all isPt && decide (bl s).Nodup) = chkP (bl s) (bl s).length 0 := by
      rw [Bool.eq_iff_iff, hc, Bool.and_eq_true, decide_eq_true_iff]
    rw [this]
    exact Ev.pos rfl (piPattern_l0 s hs (bl s).length 0 (by omega))
theorem patB_spec {l : List UInt8} (h : patB l = true) : 1 ≤ l.length ∧ l.length ≤ 9 ∧ (∀ c ∈ l, 49 ≤ c.toNat ∧ c.toNat ≤ 57) ∧ l.Nodup := by
  unfold patB at h
  simp only [Bool.and_eq_true, decide_eq_true_eq, List.all_eq_true] at h
  refine ⟨h.1.1, h.1.2, fun c hc => ?_, h.2.2⟩
  have := h.2.1 c hc
  unfold isPt at this
  simpa using this
/-- Do the points from a place on follow? -/
def chkD (l : List UInt8) : Nat → Nat → Bool
  | 0, _ => true
  | d + 1, i => goB (l.take i) ((l.getD (i - 1) 0).toNat : Int) ((l.getD i 0).toNat : Int) && chkD l d (i + 1)
theorem last_at (s : ByteArray) (i : Nat) (hi : 0 < i) (hl : i < (bl s).length) : (s.extract 0 i).size = i ∧ bt (s.extract 0 i) (((s.extract 0 i).size - 1 : Nat) : Int) = (((bl s).getD (i - 1) 0).toNat : Int) := by
  have h1 : (s.extract 0 i).size = i := by rw [bl_len, bl_take, List.length_take]; omega
  refine ⟨h1, ?_⟩
  rw [h1, bt_nat _ (i - 1) (by rw [bl_take, List.length_take]; omega), getD_at _ _ (by omega)]
  simp only [bl_take, List.getElem_take]
section
variable (s : ByteArray) (hp : patB (bl s) = true)
include hp
theorem isDrawn_l0 : ∀ (d i : Nat), 0 < i → i + d = (bl s).length → Ev (fun k => impl_isDrawn.l0 k s (s.size : Int) (i : Int)) (chkD (bl s) d i)
  | 0, i, h0, hi => by
    have es : s.size = (bl s).length := rfl
    apply Ev.succ; simp only [impl_isDrawn.l0]
    exact Ev.neg (by omega) (Ev.now _)
  | d + 1, i, h0, hi => by
    obtain ⟨p1, p2, p3, p4⟩ := patB_spec hp
    have es : s.size = (bl s).length := rfl
    have hlt : i < (bl s).length := by omega
    have ih := isDrawn_l0 d (i + 1) (by omega) (by omega)
    have e1 : wrap64 ((i : Int) + 1) = ((i + 1 : Nat) : Int) := by rw [wrap_id (by omega) (by omega)]; omega
    obtain ⟨q1, q2⟩ := last_at s i h0 hlt
    have r1 := p3 _ (List.getElem_mem (show i - 1 < (bl s).length by omega))
    have r2 := p3 _ (List.getElem_mem hlt)
    have cf := canFollow_ev (s.extract 0 i) _ ((bl s)[i].toNat : Int) (by omega) (by omega) q2 (by rw [getD_at _ _ (by omega)]; omega) (by rw [getD_at _ _ (by omega)]; omega) (by omega) (by omega)
    rw [bl_take] at cf
    apply Ev.succ; simp only [impl_isDrawn.l0, e1, Int.toNat_natCast]
    unfold chkD
    rw [bt_nat s i hlt, getD_at (bl s) i hlt]
    refine Ev.pos (by omega) (Ev.pos (by omega) (Ev.pos (by omega) (Ev.pos (by omega) (Ev.bind cf ?_))))
    cases goB ((bl s).take i) (((bl s).getD (i - 1) 0).toNat : Int) ((bl s)[i].toNat : Int) with
    | true => exact Ev.pos rfl (by rw [Bool.true_and]; exact ih)
    | false => exact Ev.neg (by decide) (Ev.now _)
theorem isDrawn_ev : Ev (fun k => impl_isDrawn.f k s) (chkD (bl s) ((bl s).length - 1) 1) := by
  obtain ⟨p1, p2, p3, p4⟩ := patB_spec hp
  have es : s.size = (bl s).length := rfl
  have go := isDrawn_l0 s hp ((bl s).length - 1) 1 (by omega) (by omega)
  have he : (s.extract 0 0).toList = [] := by rw [bl_toList, bl_take]; simp
  unfold impl_isDrawn.f
  apply Ev.succ; simp only [impl_isDrawn.l0]
  refine Ev.pos (by omega) (Ev.pos (by omega) (Ev.pos (by omega) (Ev.pos (by omega) (Ev.bind (a := true) ?_ (Ev.pos rfl ?_)))))
  · unfold impl_canFollow.f
    exact Ev.pos he (Ev.now _)
  · rw [show wrap64 ((0 : Int) + 1) = ((1 : Nat) : Int) by rw [wrap_id (by omega) (by omega)]; rfl]
    exact go
theorem piDrawn_l0 : ∀ (d i : Nat), 0 < i → i + d = (bl s).length → Ev (fun k => spec_piDrawn.l0 k s (i : Int)) (chkD (bl s) d i)
  | 0, i, h0, hi => by
    have es : s.size = (bl s).length := rfl
    apply Ev.succ; simp only [spec_piDrawn.l0]
    exact Ev.neg (by omega) (Ev.now _)
  | d + 1, i, h0, hi => by
    obtain ⟨p1, p2, p3, p4⟩ := patB_spec hp
    have es : s.size = (bl s).length := rfl
    have hlt : i < (bl s).length := by omega
    have ih := piDrawn_l0 d (i + 1) (by omega) (by omega)
    have e1 : wrap64 ((i : Int) + 1) = ((i + 1 : Nat) : Int) := by rw [wrap_id (by omega) (by omega)]; omega
    obtain ⟨q1, q2⟩ := last_at s i h0 hlt
    have gg := piGoes_ev (s.extract 0 i) _ ((bl s)[i].toNat : Int) (by omega) (by omega) q2
    rw [bl_take] at gg
    have hno : hasI ((bl s).take i) ((bl s)[i].toNat : Int) = false := by
      cases hh : hasI ((bl s).take i) ((bl s)[i].toNat : Int) with
      | false => rfl
      | true =>
        have hsub : ((bl s).take (i + 1)).Nodup := p4.sublist (List.take_sublist _ _)
        rw [List.take_succ_eq_append_getElem hlt, List.nodup_append] at hsub
        exact absurd rfl (hsub.2.2 _ ((hasI_mem _ _).1 hh) _ (by simp))
    rw [hno, Bool.not_false, Bool.true_and] at gg
    apply Ev.succ; simp only [spec_piDrawn.l0, e1, Int.toNat_natCast]
    unfold chkD
    rw [bt_nat s i hlt, getD_at (bl s) i hlt]
    refine Ev.pos (by omega) (Ev.pos (by omega) (Ev.pos (by omega) (Ev.bind gg ?_)))
    cases goB ((bl s).take i) (((bl s).getD (i - 1) 0).toNat : Int) ((bl s)[i].toNat : Int) with
    | true => exact Ev.pos rfl (by rw [Bool.true_and]; exact ih)
    | false => exact Ev.neg (by decide) (Ev.now _)
theorem piDrawn_ev : Ev (fun k => spec_piDrawn.f k s) (chkD (bl s) ((bl s).length - 1) 1) := by
  obtain ⟨p1, p2, p3, p4⟩ := patB_spec hp
  exact piDrawn_l0 s hp ((bl s).length - 1) 1 (by omega) (by omega)
end
end Go.Proofs.YtfhbclfmnliopaaGreatDoor

namespace Go.Proofs.YtfhbclfmnliopaaGreatDoor
open Go.RowKit Go.Proofs.YtfhbclfmnliopaaGreatDoor.P Go.Proofs.YtfhbclfmnliopaaGreatDoorW.PrintWords
set_option linter.unusedSimpArgs false
set_option linter.unusedVariables false
theorem piDigits_l0 (s : ByteArray) (hs : s.size ≤ 9223372036854775806) : ∀ (d i : Nat), i + d = s.size → Ev (fun k => spec_piDigits.l0 k s i) (((bl s).drop i).all isDig)
  | 0, i, hi => by
    apply Ev.succ
    simp only [spec_piDigits.l0]
    refine Ev.neg (by omega) (Ev.const ?_)
    rw [List.drop_of_length_le (by rw [← bl_len]; omega)]; rfl
  | d + 1, i, hi => by
    have hlt : i < (bl s).length := by rw [← bl_len]; omega
    apply Ev.succ
    simp only [spec_piDigits.l0]
    refine Ev.pos (by omega) (Ev.pos (by omega) ?_)
    rw [wrap_id (by omega) (by omega), bt_nat s i hlt, List.drop_eq_getElem_cons hlt, List.all_cons]
    by_cases c1 : ((bl s)[i].toNat : Int) < 48
    · refine Ev.pos c1 (Ev.const ?_)
      have : isDig (bl s)[i] = false := by unfold isDig; rw [Bool.and_eq_false_iff]; left; rw [decide_eq_false_iff_not]; omega
      rw [this]; rfl
    · refine Ev.neg c1 ?_
      by_cases c2 : ((bl s)[i].toNat : Int) > 57
      · refine Ev.pos c2 (Ev.const ?_)
        have : isDig (bl s)[i] = false := by unfold isDig; rw [Bool.and_eq_false_iff]; right; rw [decide_eq_false_iff_not]; omega
        rw [this]; rfl
      · refine Ev.neg c2 ?_
        have : isDig (bl s)[i] = true := by unfold isDig; rw [Bool.and_eq_true, decide_eq_true_eq, decide_eq_true_eq]; omega
        rw [this, Bool.true_and]
        exact_mod_cast piDigits_l0 s hs d (i + 1) (by omega)
theorem piDigits_ev (s : ByteArray) (a b : Nat) (hb : b ≤ 1048576) : Ev (fun k => spec_piDigits.f k s a b) (digsB (bl s) a b) := by
  unfold spec_piDigits.f digsB
  refine Ev.bindc (l1In_eq _ _ _) ?_
  have e : (decide ((a : Int) ≤ (s.size : Int)) && decide ((s.size : Int) ≤ (b : Int))) = (decide (a ≤ (bl s).length) && decide ((bl s).length ≤ b)) := by
    rw [bl_len]; congr 1 <;> (rw [decide_eq_decide]; omega)
  rw [e]
  cases h : (decide (a ≤ (bl s).length) && decide ((bl s).length ≤ b)) with
  | false => exact Ev.no (Ev.now _)
  | true =>
    have : s.size ≤ b := by simp only [Bool.and_eq_true, decide_eq_true_eq] at h; rw [bl_len]; omega
    refine Ev.yes ?_
    rw [Bool.true_and]
    exact piDigits_l0 s (by omega) s.size 0 (by omega)
/-- Is it a pin? -/
def pinB (l : List UInt8) : Bool := digsB l 2 4
theorem isPin_eq (s : ByteArray) (h1 : s.size ≤ 9223372036854775807) : impl_IsPin.f s = some (pinB (bl s)) := by
  unfold impl_IsPin.f pinB
  rw [show impl_isDigits.f s 2 4 = some (digsB (bl s) 2 4) from isDigits_eq s 2 4 h1]; rfl
theorem piPin_ev (s : ByteArray) : Ev (fun k => spec_piPin.f k s) (pinB (bl s)) := by
  unfold spec_piPin.f pinB
  exact Ev.bind (piDigits_ev s 2 4 (by omega)) (Ev.now _)
theorem pinB_len {l : List UInt8} (h : pinB l = true) : 2 ≤ l.length ∧ l.length ≤ 4 ∧ l.all isDig = true := by
  unfold pinB digsB at h
  simp only [Bool.and_eq_true, decide_eq_true_eq] at h
  exact ⟨h.1.1, h.1.2, h.2⟩
end Go.Proofs.YtfhbclfmnliopaaGreatDoor

namespace Go.Proofs.YtfhbclfmnliopaaGreatDoor
open Go.RowKit Go.Proofs.YtfhbclfmnliopaaGreatDoor.P Go.Proofs.YtfhbclfmnliopaaGreatDoorW.PrintWords
set_option linter.unusedSimpArgs false
set_option linter.unusedVariables false
theorem digitSign : ∀ d : Fin 10, bt (⟨#[48, 49, 50, 51, 52, 53, 54, 55, 56, 57]⟩ : ByteArray) (d.val : Int) = 48 + (d.val : Int) := by decide +kernel
theorem digitText_l0 (l : List Int) (hl : l.length ≤ 1000000) (hd : ∀ x ∈ l, 0 ≤ x ∧ x < 10) : ∀ (d i : Nat) (out : List Int), i + d = l.length → out.length + d ≤ 2000000 →
    Ev (fun k => impl_digitText.l0 k out l (l.length : Int) i) (strOfNums (out ++ (l.drop i).map (48 + ·)))
  | 0, i, out, hi, ho => by
    apply Ev.succ; simp only [impl_digitText.l0]
    refine Ev.neg (by omega) (Ev.const ?_)
    rw [List.drop_of_length_le (by omega)]; simp
  | d + 1, i, out, hi, ho => by
    have hlt : i < l.length := by omega
    have hb := hd _ (List.getElem_mem hlt)
    apply Ev.succ; simp only [impl_digitText.l0]
    rw [rd_nat l i hlt, wrap_id (by omega) (by omega)]
    refine Ev.yes (Ev.yes (Ev.yes (Ev.yes (Ev.yes (Ev.yes ?_)))))
    obtain ⟨n, hn⟩ := Int.eq_ofNat_of_zero_le hb.1
    have e := digitSign ⟨n, by omega⟩
    rw [List.drop_eq_getElem_cons hlt, List.map_cons, hn]
    simp only at e
    rw [e]
    have := digitText_l0 l hl hd d (i + 1) (out ++ [48 + (n : Int)]) (by omega) (by simp; omega)
    rw [List.append_assoc] at this
    exact_mod_cast this
theorem digitText_ev (l : List Int) (hl : l.length ≤ 1000000) (hd : ∀ x ∈ l, 0 ≤ x ∧ x < 10) : Ev (fun k => impl_digitText.f k l) (strOfNums (l.map (48 + ·))) := by
  unfold impl_digitText.f
  have := digitText_l0 l hl hd l.length 0 [] (by omega) (by simp; omega)
  simpa using this
end Go.Proofs.YtfhbclfmnliopaaGreatDoor

namespace Go.Proofs.YtfhbclfmnliopaaGreatDoor
open Go.RowKit Go.Proofs.YtfhbclfmnliopaaGreatDoor.P Go.Proofs.YtfhbclfmnliopaaGreatDoorW.PrintWords
set_option linter.unusedSimpArgs false
set_option linter.unusedVariables false
/-! What the functions of patterns and wheels answer. -/
def drw (l : List UInt8) : Bool := chkD l (l.length - 1) 1
def e0 : ByteArray := ⟨#[]⟩
def vND (s : ByteArray) : ByteArray × Bool := if patB (bl s) = true ∧ drw (bl s) = true then (strOfNums (nxt (bl s)), true) else (e0, false)
def vID (s : ByteArray) : Bool × Bool := if patB (bl s) = true then (drw (bl s), true) else (false, false)
def vCD (s : ByteArray) (long : Int) : Int × Bool := if (s.size = 1 ∧ patB (bl s) = true) ∧ (1 ≤ long ∧ long ≤ 9) then (((cnt (long - 1).toNat (bl s) : Nat) : Int), true) else (0, false)
def vFD (s : ByteArray) (long : Int) : ByteArray × Bool := if (s.size = 1 ∧ patB (bl s) = true) ∧ (1 ≤ long ∧ long ≤ 9) then told (fst1 (long - 1).toNat s) else (e0, false)
def vCA (long : Int) : Int × Bool := if 1 ≤ long ∧ long ≤ 9 then ((((pts.map fun c => cnt (long - 1).toNat [toB c]).sum : Nat) : Int), true) else (0, false)
namespace NextPoints
theorem spec_l0 (s : ByteArray) (hs : s.size ≤ 1048576) (hp : 0 < s.size) : ∀ (d i : Nat) (acc : List Int), i + d = 9 → acc.length ≤ i → Ev (fun k => spec_NextPoints.l0 k s (strOfNums acc) (49 + (i : Int))) (strOfNums (acc ++ (pts.drop i).filter (goes (bl s))), true)
  | 0, i, acc, hi, ha => by
    obtain rfl : i = 9 := by omega
    apply Ev.succ; simp only [spec_NextPoints.l0]
    refine Ev.neg (by decide) (Ev.const ?_)
    rw [show pts.drop 9 = [] from rfl]; simp
  | d + 1, i, acc, hi, ha => by
    obtain ⟨q1, q2⟩ := pts_at i (by omega)
    have e1 : (49 + (i : Int) + 1) % 256 = 49 + ((i + 1 : Nat) : Int) := by omega
    have pg := piGoes_ev s _ (49 + (i : Int)) hs hp (last_bt s hp)
    have ih := fun acc' h => spec_l0 s hs hp d (i + 1) acc' (by omega) h
    rw [q2, List.filter_cons]
    apply Ev.succ; simp only [spec_NextPoints.l0, e1]
    refine Ev.pos (by omega) (Ev.bind pg ?_)
    show Ev (fun k => if goes (bl s) (49 + (i : Int)) = true then _ else _) _
    cases goes (bl s) (49 + (i : Int)) with
    | true =>
      have hq : strOfNums acc ++ Utf8.encode (wrap32 (49 + (i : Int))) = strOfNums (acc ++ [49 + (i : Int)]) := by
        apply bl_inj
        rw [bl_append, enc_pt i (by omega), bl_nums, bl_nums]; simp
      have hz : (strOfNums acc).size + (Utf8.encode (wrap32 (49 + (i : Int)))).size ≤ 9223372036854775807 := by
        rw [bl_len (Utf8.encode _), enc_pt i (by omega), strOfNums_size]; simp; omega
      refine Ev.pos rfl (Ev.pos hz ?_)
      rw [if_pos rfl, hq]
      have := ih (acc ++ [49 + (i : Int)]) (by simp; omega)
      rwa [List.append_assoc, List.singleton_append] at this
    | false =>
      rw [if_neg (by decide)]
      exact Ev.neg (by decide) (ih acc (by omega))
theorem both (s : ByteArray) (hs : s.size ≤ 1048576) : ∃ r : ByteArray × Bool, Ev (fun k => spec_NextPoints.f k s) r ∧ Ev (fun k => impl_NextPoints.f k s) r ∧ r = vND s := by
  have bad : Ev (fun k => spec_NextPoints.j0 k s true) ((⟨#[]⟩ : ByteArray), false) := Ev.succ (by simp only [spec_NextPoints.j0]; exact Ev.pos (by trivial) (Ev.now _))
  unfold spec_NextPoints.f impl_NextPoints.f
  cases h : patB (bl s) with
  | false => exact ⟨((⟨#[]⟩ : ByteArray), false), Ev.bind (piPattern_ev s hs) (by rw [h]; exact Ev.neg (by decide) bad), Ev.bind (isPattern_ev s hs) (by rw [h]; exact Ev.no (Ev.now _)), by simp [vND, drw, e0, h]⟩
  | true =>
    obtain ⟨p1, p2, p3, p4⟩ := patB_spec h
    have es : s.size = (bl s).length := rfl
    have hl : 49 ≤ lastI (bl s) ∧ lastI (bl s) ≤ 57 := by
      unfold lastI
      rw [getD_at _ _ (by omega)]
      have := p3 _ (List.getElem_mem (show (bl s).length - 1 < (bl s).length by omega))
      omega
    cases hd : chkD (bl s) ((bl s).length - 1) 1 with
    | false => exact ⟨((⟨#[]⟩ : ByteArray), false), Ev.bind (piPattern_ev s hs) (by rw [h]; exact Ev.yes (Ev.bind (piDrawn_ev s h) (by rw [hd]; exact bad))), Ev.bind (isPattern_ev s hs) (by rw [h]; exact Ev.yes (Ev.bind (isDrawn_ev s h) (by rw [hd]; exact Ev.no (Ev.now _)))), by simp [vND, drw, e0, h, hd]⟩
    | true =>
      have s0 := spec_l0 s hs (by omega) 9 0 [] (by omega) (by simp)
      have go : Ev (fun k => spec_NextPoints.j0 k s (!true)) (strOfNums (nxt (bl s)), true) := by
        apply Ev.succ; simp only [spec_NextPoints.j0]
        exact Ev.neg (by decide) s0
      exact ⟨(strOfNums (nxt (bl s)), true), Ev.bind (piPattern_ev s hs) (by rw [h]; exact Ev.yes (Ev.bind (piDrawn_ev s h) (by rw [hd]; exact go))), Ev.bind (isPattern_ev s hs) (by rw [h]; exact Ev.yes (Ev.bind (isDrawn_ev s h) (by rw [hd]; exact Ev.yes (Ev.bind (nextPoints_ev s hs (by omega) hl) (Ev.now _))))), by simp [vND, drw, h, hd]⟩
end NextPoints
theorem drawn_both (s : ByteArray) (hs : s.size ≤ 1048576) : ∃ r : Bool × Bool, Ev (fun k => spec_IsDrawn.f k s) r ∧ Ev (fun k => impl_IsDrawn.f k s) r ∧ r = vID s := by
  unfold spec_IsDrawn.f impl_IsDrawn.f
  cases h : patB (bl s) with
  | false => exact ⟨(false, false), Ev.bind (piPattern_ev s hs) (by rw [h]; exact Ev.no (Ev.now _)), Ev.bind (isPattern_ev s hs) (by rw [h]; exact Ev.no (Ev.now _)), by simp [vID, drw, h]⟩
  | true => exact ⟨(chkD (bl s) ((bl s).length - 1) 1, true), Ev.bind (piPattern_ev s hs) (by rw [h]; exact Ev.yes (Ev.bind (piDrawn_ev s h) (Ev.now _))), Ev.bind (isPattern_ev s hs) (by rw [h]; exact Ev.yes (Ev.bind (isDrawn_ev s h) (Ev.now _))), by simp [vID, drw, h]⟩
namespace MirrorDrawn
def mir (d : Nat) : Int := ([0, 3, 2, 1, 6, 5, 4, 9, 8, 7] : List Int).getD d 0
theorem mir_impl : ∀ d : Fin 10, ((impl_spot.f (d.val : Int)).bind fun b => impl_digitAt.f 9 (wrap64 (2 - b.1)) b.2) = some (mir d.val) := by decide +kernel
theorem mir_bd : ∀ d : Fin 10, 0 ≤ mir d.val ∧ mir d.val < 10 := by decide
def mirE (c : Int) : Int := (((((c - 49) % 256) - (((c - 49) % 256) % 3)) + 2) - (((c - 49) % 256) % 3)) + 1
theorem mir_spec : ∀ d : Fin 9, mirE (49 + (d.val : Int)) = mir (d.val + 1) := by decide +kernel
/-- The mirrored digits of a text. -/
def mirs (l : List UInt8) : List Int := l.map fun c => mir (c.toNat - 48)
section
variable (s : ByteArray) (hp : patB (bl s) = true)
include hp
theorem impl_l0 : ∀ (d i : Nat) (out : List Int), i + d = (bl s).length → out.length ≤ i → (∀ x ∈ out, 0 ≤ x ∧ x < 10) →
    Ev (fun k => impl_MirrorWalk.l0 k s out (s.size : Int) i) (strOfNums ((out ++ mirs ((bl s).drop i)).map (48 + ·)), true)
  | 0, i, out, hi, ho, hx => by
    obtain ⟨p1, p2, p3, p4⟩ := patB_spec hp
    apply Ev.succ; simp only [impl_MirrorWalk.l0]
    refine Ev.neg (by rw [bl_len]; omega) (Ev.bind (digitText_ev out (by omega) hx) (Ev.const ?_))
    rw [List.drop_of_length_le (by omega)]; simp [mirs]
  | d + 1, i, out, hi, ho, hx => by
    obtain ⟨p1, p2, p3, p4⟩ := patB_spec hp
    have hlt : i < (bl s).length := by omega
    have hc := p3 _ (List.getElem_mem hlt)
    have hsz : s.size = (bl s).length := rfl
    apply Ev.succ; simp only [impl_MirrorWalk.l0, impl_digit.f, Option.bind_some]
    rw [bt_nat s i hlt, show wrap64 ((i : Int) + 1) = ((i + 1 : Nat) : Int) by rw [wrap_id (by omega) (by omega)]; omega, List.drop_eq_getElem_cons hlt]
    have e3 : (((bl s)[i].toNat : Int) - 48) % 256 = (((bl s)[i].toNat - 48 : Nat) : Int) := by omega
    rw [e3]
    have hm := mir_impl ⟨(bl s)[i].toNat - 48, by omega⟩
    have hb := mir_bd ⟨(bl s)[i].toNat - 48, by omega⟩
    simp only at hm hb
    obtain ⟨b, hb1, hb2⟩ := Option.bind_eq_some_iff.1 hm
    have this := impl_l0 (d) (i + 1) (out ++ [mir ((bl s)[i].toNat - 48)]) (by omega) (by simp; omega) (by
      intro x hx'
      rcases List.mem_append.1 hx' with h | h
      · exact hx x h
      · rw [List.mem_singleton.1 h]; exact hb)
    refine Ev.pos (by omega) (Ev.pos (by omega) (Ev.pos (by omega) (Ev.bindc hb1 (Ev.bind (Ev.of (impl_digitAt.mono _ _) hb2) (Ev.pos (by omega) ?_)))))
    simp only [mirs, List.map_cons] at this ⊢
    rw [List.append_assoc, List.singleton_append] at this
    exact this
theorem spec_l0 : ∀ (d i : Nat) (out : List Int), i + d = (bl s).length → out.length ≤ i →
    Ev (fun k => spec_MirrorDrawn.l0 k s (strOfNums (out.map (48 + ·))) i) (strOfNums ((out ++ mirs ((bl s).drop i)).map (48 + ·)), true)
  | 0, i, out, hi, ho => by
    apply Ev.succ; simp only [spec_MirrorDrawn.l0]
    refine Ev.neg (by rw [bl_len]; omega) (Ev.const ?_)
    rw [List.drop_of_length_le (by omega)]; simp [mirs]
  | d + 1, i, out, hi, ho => by
    obtain ⟨p1, p2, p3, p4⟩ := patB_spec hp
    have hlt : i < (bl s).length := by omega
    have hc := p3 _ (List.getElem_mem hlt)
    have hsz : s.size = (bl s).length := rfl
    have hm := mir_spec ⟨(bl s)[i].toNat - 49, by omega⟩
    have hb := mir_bd ⟨(bl s)[i].toNat - 48, by omega⟩
    simp only at hm hb
    rw [show (49 + (((bl s)[i].toNat - 49 : Nat) : Int)) = ((bl s)[i].toNat : Int) by omega, show (bl s)[i].toNat - 49 + 1 = (bl s)[i].toNat - 48 by omega] at hm
    unfold mirE at hm
    generalize hv : mir ((bl s)[i].toNat - 48) = v at hm hb
    have hq : strOfNums (out.map (48 + ·)) ++ strOfNums ([(wrap64 (48 + v)) % 256] : List Int) = strOfNums ((out ++ [v]).map (48 + ·)) := by
      apply bl_inj
      rw [bl_append, bl_nums, bl_nums, bl_nums]
      simp only [List.map_append, List.map_cons, List.map_nil]
      rw [wrap_id (by omega) (by omega), show (48 + v) % 256 = 48 + v by omega]
    have hz : (strOfNums (out.map (48 + ·))).size + (strOfNums ([(wrap64 (48 + v)) % 256] : List Int)).size ≤ 9223372036854775807 := by
      rw [strOfNums_size, strOfNums_size]; simp; omega
    have this := spec_l0 d (i + 1) (out ++ [v]) (by omega) (by simp; omega)
    apply Ev.succ; simp only [spec_MirrorDrawn.l0]
    rw [bt_nat s i hlt, hm, show wrap64 ((i : Int) + 1) = ((i + 1 : Nat) : Int) by rw [wrap_id (by omega) (by omega)]; omega, List.drop_eq_getElem_cons hlt]
    refine Ev.pos (by omega) (Ev.pos (by omega) (Ev.bind (a := strOfNums ([(wrap64 (48 + v)) % 256] : List Int)) ?_ (Ev.pos hz ?_)))
    · apply Ev.succ; simp only [spec_l1Num.f]
      exact Ev.pos (by omega) (Ev.now _)
    · rw [hq]
      simp only [mirs, List.map_cons, hv] at this ⊢
      rw [List.append_assoc out, List.singleton_append] at this
      exact this
end
def vMD (s : ByteArray) : ByteArray × Bool := if patB (bl s) = true then (strOfNums ((mirs (bl s)).map (48 + ·)), true) else (e0, false)
theorem both (s : ByteArray) (hs : s.size ≤ 1048576) : ∃ r : ByteArray × Bool, Ev (fun k => spec_MirrorDrawn.f k s) r ∧ Ev (fun k => impl_MirrorDrawn.f k s) r ∧ r = vMD s := by
  unfold spec_MirrorDrawn.f impl_MirrorDrawn.f
  cases h : patB (bl s) with
  | false => exact ⟨((⟨#[]⟩ : ByteArray), false), Ev.bind (piPattern_ev s hs) (by rw [h]; exact Ev.no (Ev.now _)), Ev.bind (isPattern_ev s hs) (by rw [h]; exact Ev.no (Ev.now _)), by simp [vMD, e0, h]⟩
  | true =>
    obtain ⟨p1, p2, p3, p4⟩ := patB_spec h
    have hd : impl_isDigits.f s 1 40 = some true := by
      rw [show impl_isDigits.f s 1 40 = some (digsB (bl s) 1 40) from isDigits_eq s 1 40 (by omega)]
      congr 1
      unfold digsB
      simp only [Bool.and_eq_true, decide_eq_true_eq, List.all_eq_true]
      refine ⟨⟨p1, by omega⟩, fun c hc => ?_⟩
      have := p3 c hc
      unfold isDig
      rw [Bool.and_eq_true, decide_eq_true_eq, decide_eq_true_eq]; omega
    have i0 := impl_l0 s h (bl s).length 0 [] (by omega) (by simp) (by simp)
    have s0 := spec_l0 s h (bl s).length 0 [] (by omega) (by simp)
    refine ⟨_, Ev.bind (piPattern_ev s hs) (by rw [h]; exact Ev.yes s0), Ev.bind (isPattern_ev s hs) (by rw [h]; exact Ev.yes (Ev.bind (by unfold impl_MirrorWalk.f; exact Ev.bindc hd (Ev.yes i0)) (Ev.now _))), by simp [vMD, h]⟩
end MirrorDrawn
namespace CountDrawn
theorem both (s : ByteArray) (hs : s.size ≤ 1048576) (long : Int) : ∃ r : Int × Bool, Ev (fun k => spec_CountDrawn.f k s long) r ∧ Ev (fun k => impl_CountDrawn.f k s long) r ∧ r = vCD s long := by
  unfold spec_CountDrawn.f impl_CountDrawn.f impl_isPoint.f spec_piStart.f
  by_cases c : (s.size : Int) = 1
  · cases h : patB (bl s) with
    | false => exact ⟨(0, false), Ev.bind (a := false) (Ev.pos c (Ev.bind (piPattern_ev s hs) (by rw [h]; exact Ev.no (Ev.now _)))) (Ev.no (Ev.now _)), Ev.bind (a := false) (Ev.pos c (Ev.bind (isPattern_ev s hs) (by rw [h]; exact Ev.now _))) (Ev.no (Ev.now _)), by simp [vCD, e0, h]⟩
    | true =>
      obtain ⟨p1, p2, p3, p4⟩ := patB_spec h
      have es : s.size = (bl s).length := rfl
      have hok : okS s := by
        refine ⟨by omega, ?_⟩
        unfold lastI
        rw [getD_at _ _ (by omega)]
        have := p3 _ (List.getElem_mem (show (bl s).length - 1 < (bl s).length by omega))
        omega
      have hpl : impl_patternLong.f long = some (decide (1 ≤ long) && decide (long ≤ 9)) := by unfold impl_patternLong.f; rw [in_eq]; rfl
      cases h2 : (decide (1 ≤ long) && decide (long ≤ 9)) with
      | false => exact ⟨(0, false), Ev.bind (a := false) (Ev.pos c (Ev.bind (piPattern_ev s hs) (by rw [h]; exact Ev.yes (Ev.bindc (x := false) (by rw [l1In_eq, h2]) (Ev.now _))))) (Ev.no (Ev.now _)), Ev.bind (a := true) (Ev.pos c (Ev.bind (isPattern_ev s hs) (by rw [h]; exact Ev.now _))) (Ev.yes (Ev.bindc (x := false) (by rw [hpl, h2]) (Ev.no (Ev.now _)))), by unfold vCD; rw [if_neg (by rintro ⟨_, q1, q2⟩; simp [q1, q2] at h2)]⟩
      | true =>
        have h2' := h2
        simp only [Bool.and_eq_true, decide_eq_true_eq] at h2'
        have e1 : wrap64 (long - 1) = (((long - 1).toNat : Nat) : Int) := by rw [wrap_id (by omega) (by omega)]; omega
        have hb := cnt_fit (long - 1).toNat (by omega) (bl s)
        have sp := piCount_ev (long - 1).toNat s hok (by omega) hb
        have im := countDrawn_ev s (long - 1).toNat long hok (by omega) (by omega) hb
        rw [← e1] at sp
        exact ⟨_, Ev.bind (a := true) (Ev.pos c (Ev.bind (piPattern_ev s hs) (by rw [h]; exact Ev.yes (Ev.bindc (x := true) (by rw [l1In_eq, h2]) (Ev.now _))))) (Ev.yes (Ev.bind sp (Ev.now _))), Ev.bind (a := true) (Ev.pos c (Ev.bind (isPattern_ev s hs) (by rw [h]; exact Ev.now _))) (Ev.yes (Ev.bindc (x := true) (by rw [hpl, h2]) (Ev.yes (Ev.bind im (Ev.now _))))), by unfold vCD; rw [if_pos ⟨⟨by omega, h⟩, h2'⟩]⟩
  · exact ⟨(0, false), Ev.bind (a := false) (Ev.neg c (Ev.now _)) (Ev.no (Ev.now _)), Ev.bind (a := false) (Ev.neg c (Ev.now _)) (Ev.no (Ev.now _)), by unfold vCD; rw [if_neg (by rintro ⟨⟨q, _⟩, _⟩; omega)]⟩
end CountDrawn
namespace FirstDrawn
theorem both (s : ByteArray) (hs : s.size ≤ 1048576) (long : Int) : ∃ r : ByteArray × Bool, Ev (fun k => spec_FirstDrawn.f k s long) r ∧ Ev (fun k => impl_FirstDrawn.f k s long) r ∧ r = vFD s long := by
  unfold spec_FirstDrawn.f impl_FirstDrawn.f impl_isPoint.f spec_piStart.f
  by_cases c : (s.size : Int) = 1
  · cases h : patB (bl s) with
    | false => exact ⟨((⟨#[]⟩ : ByteArray), false), Ev.bind (a := false) (Ev.pos c (Ev.bind (piPattern_ev s hs) (by rw [h]; exact Ev.no (Ev.now _)))) (Ev.no (Ev.now _)), Ev.bind (a := false) (Ev.pos c (Ev.bind (isPattern_ev s hs) (by rw [h]; exact Ev.now _))) (Ev.no (Ev.now _)), by simp [vFD, e0, h]⟩
    | true =>
      obtain ⟨p1, p2, p3, p4⟩ := patB_spec h
      have es : s.size = (bl s).length := rfl
      have hok : okS s := by
        refine ⟨by omega, ?_⟩
        unfold lastI
        rw [getD_at _ _ (by omega)]
        have := p3 _ (List.getElem_mem (show (bl s).length - 1 < (bl s).length by omega))
        omega
      have hpl : impl_patternLong.f long = some (decide (1 ≤ long) && decide (long ≤ 9)) := by unfold impl_patternLong.f; rw [in_eq]; rfl
      cases h2 : (decide (1 ≤ long) && decide (long ≤ 9)) with
      | false => exact ⟨((⟨#[]⟩ : ByteArray), false), Ev.bind (a := false) (Ev.pos c (Ev.bind (piPattern_ev s hs) (by rw [h]; exact Ev.yes (Ev.bindc (x := false) (by rw [l1In_eq, h2]) (Ev.now _))))) (Ev.no (Ev.now _)), Ev.bind (a := true) (Ev.pos c (Ev.bind (isPattern_ev s hs) (by rw [h]; exact Ev.now _))) (Ev.yes (Ev.bindc (x := false) (by rw [hpl, h2]) (Ev.no (Ev.now _)))), by unfold vFD; rw [if_neg (by rintro ⟨_, q1, q2⟩; simp [q1, q2] at h2)]; rfl⟩
      | true =>
        have h2' := h2
        simp only [Bool.and_eq_true, decide_eq_true_eq] at h2'
        have e1 : wrap64 (long - 1) = (((long - 1).toNat : Nat) : Int) := by rw [wrap_id (by omega) (by omega)]; omega
        have sp := piFirst_ev (long - 1).toNat s hok (by omega)
        have im := firstD_ev s (long - 1).toNat long hok (by omega) (by omega)
        rw [← e1] at sp
        exact ⟨told (fst1 (long - 1).toNat s), Ev.bind (a := true) (Ev.pos c (Ev.bind (piPattern_ev s hs) (by rw [h]; exact Ev.yes (Ev.bindc (x := true) (by rw [l1In_eq, h2]) (Ev.now _))))) (Ev.yes (Ev.bind sp (Ev.now _))), Ev.bind (a := true) (Ev.pos c (Ev.bind (isPattern_ev s hs) (by rw [h]; exact Ev.now _))) (Ev.yes (Ev.bindc (x := true) (by rw [hpl, h2]) (Ev.yes im))), by unfold vFD; rw [if_pos ⟨⟨by omega, h⟩, h2'⟩]⟩
  · exact ⟨((⟨#[]⟩ : ByteArray), false), Ev.bind (a := false) (Ev.neg c (Ev.now _)) (Ev.no (Ev.now _)), Ev.bind (a := false) (Ev.neg c (Ev.now _)) (Ev.no (Ev.now _)), by unfold vFD; rw [if_neg (by rintro ⟨⟨q, _⟩, _⟩; omega)]; rfl⟩
end FirstDrawn
namespace CountAllDrawn
/-- A quarter of a turn. -/
def rI (c : Int) : Int := if c = 49 then 51 else if c = 50 then 54 else if c = 51 then 57 else if c = 52 then 50 else if c = 54 then 56 else if c = 55 then 49 else if c = 56 then 52 else if c = 57 then 55 else c
def rB (b : UInt8) : UInt8 := toB (rI (b.toNat : Int))
theorem rI_isP {c : Int} (h : isP c) : isP (rI c) := by
  obtain ⟨h1, h2⟩ := h
  unfold isP rI
  repeat' split
  all_goals omega
theorem rI_out {c : Int} (h : ¬ isP c) : rI c = c := by
  unfold isP at h
  unfold rI
  repeat' split
  all_goals omega
theorem rI_fin : ∀ a b : Fin 9, rI (49 + (a.val : Int)) = rI (49 + (b.val : Int)) → a = b := by decide +kernel
theorem rI_inj {a b : Int} (h : rI a = rI b) : a = b := by
  by_cases ha : isP a
  · by_cases hb : isP b
    · obtain ⟨a1, a2⟩ := ha
      obtain ⟨b1, b2⟩ := hb
      have := rI_fin ⟨(a - 49).toNat, by omega⟩ ⟨(b - 49).toNat, by omega⟩
      simp only at this
      rw [show (49 + ((a - 49).toNat : Int)) = a by omega, show (49 + ((b - 49).toNat : Int)) = b by omega] at this
      have := congrArg Fin.val (this h)
      simp only at this
      omega
    · have h1 := rI_isP ha
      rw [h, rI_out hb] at h1
      exact absurd h1 hb
  · by_cases hb : isP b
    · have h1 := rI_isP hb
      rw [← h, rI_out ha] at h1
      exact absurd h1 ha
    · rwa [rI_out ha, rI_out hb] at h
theorem btw_turn : ∀ a c : Fin 9, btw (rI (49 + (a.val : Int))) (rI (49 + (c.val : Int))) = rI (btw (49 + (a.val : Int)) (49 + (c.val : Int))) := by decide +kernel
theorem btw_rI {a c : Int} (ha : isP a) (hc : isP c) : btw (rI a) (rI c) = rI (btw a c) := by
  obtain ⟨a1, a2⟩ := ha
  obtain ⟨c1, c2⟩ := hc
  have := btw_turn ⟨(a - 49).toNat, by omega⟩ ⟨(c - 49).toNat, by omega⟩
  simp only at this
  rwa [show (49 + ((a - 49).toNat : Int)) = a by omega, show (49 + ((c - 49).toNat : Int)) = c by omega] at this
theorem rB_nat (b : UInt8) (h : isP (b.toNat : Int)) : ((rB b).toNat : Int) = rI (b.toNat : Int) := toB_nat (rI_isP h)
def allP (l : List UInt8) : Prop := ∀ b ∈ l, isP (b.toNat : Int)
theorem beq_rI (a x : Int) : (rI a == rI x) = (a == x) := by
  rw [Bool.eq_iff_iff, beq_iff_eq, beq_iff_eq]
  exact ⟨rI_inj, fun h => by rw [h]⟩
theorem hasI_turn : ∀ (l : List UInt8), allP l → ∀ x : Int, hasI (l.map rB) (rI x) = hasI l x
  | [], _, x => rfl
  | b :: l, hl, x => by
    have ih := hasI_turn l (fun y hy => hl y (List.mem_cons_of_mem _ hy)) x
    unfold hasI at ih ⊢
    rw [List.map_cons, List.any_cons, List.any_cons, ih, rB_nat b (hl b List.mem_cons_self), beq_rI]
theorem last_turn (l : List UInt8) (hn : 0 < l.length) (hl : allP l) : lastI (l.map rB) = rI (lastI l) ∧ isP (lastI l) := by
  unfold lastI
  rw [List.length_map, getD_at (l.map rB) (l.length - 1) (by rw [List.length_map]; omega), getD_at l (l.length - 1) (by omega), List.getElem_map]
  have hp := hl _ (List.getElem_mem (show l.length - 1 < l.length by omega))
  exact ⟨rB_nat _ hp, hp⟩
theorem goes_turn (l : List UInt8) (hn : 0 < l.length) (hl : allP l) (c : Int) (hc : isP c) : goes (l.map rB) (rI c) = goes l c := by
  obtain ⟨h1, h2⟩ := last_turn l hn hl
  unfold goes goB
  rw [hasI_turn l hl c, h1, btw_rI h2 hc, hasI_turn l hl]
  congr 2
  have := beq_rI (btw (lastI l) c) 0
  rwa [show rI 0 = 0 from rfl] at this
theorem pts_turn : pts.Perm (pts.map rI) := by decide
theorem nxt_turn (l : List UInt8) (hn : 0 < l.length) (hl : allP l) : (nxt (l.map rB)).Perm ((nxt l).map rI) := by
  unfold nxt
  have h1 := pts_turn.filter (goes (l.map rB))
  rw [List.filter_map] at h1
  have h2 : pts.filter (goes (l.map rB) ∘ rI) = pts.filter (goes l) := List.filter_congr fun c hc => goes_turn l hn hl c (pts_isP c hc)
  rw [h2] at h1
  exact h1
theorem sum_perm {l1 l2 : List Nat} (h : l1.Perm l2) : l1.sum = l2.sum := by
  induction h with
  | nil => rfl
  | cons x _ ih => rw [List.sum_cons, List.sum_cons, ih]
  | swap x y l => simp only [List.sum_cons]; omega
  | trans _ _ ih1 ih2 => rw [ih1, ih2]
theorem allP_ext (l : List UInt8) (hl : allP l) {c : Int} (hc : isP c) : allP (l ++ [toB c]) := by
  intro b hb
  rcases List.mem_append.1 hb with h | h
  · exact hl b h
  · rw [List.mem_singleton.1 h, toB_nat hc]; exact hc
theorem cnt_turn : ∀ (m : Nat) (l : List UInt8), 0 < l.length → allP l → cnt m (l.map rB) = cnt m l
  | 0, l, hn, hl => rfl
  | m + 1, l, hn, hl => by
    unfold cnt
    rw [sum_perm ((nxt_turn l hn hl).map _), List.map_map]
    congr 1
    refine List.map_congr_left fun c hc => ?_
    have hp := nxt_isP l c hc
    have ih := cnt_turn m (l ++ [toB c]) (by simp) (allP_ext l hl hp)
    rw [← ih, List.map_append]
    show cnt m (l.map rB ++ [toB (rI c)]) = _
    congr 2
    rw [List.map_cons, List.map_nil]
    unfold rB
    rw [toB_nat hp]
theorem allP_one (b : UInt8) (h : isP (b.toNat : Int)) : allP [b] := fun x hx => by rw [List.mem_singleton.1 hx]; exact h
theorem next_empty : impl_nextPoints.f 20 (⟨#[]⟩ : ByteArray) = some (strOfNums pts) := by decide +kernel
theorem all_ev (m : Nat) (hm : m ≤ 8) : Ev (fun k => impl_countDrawn.f k (⟨#[]⟩ : ByteArray) ((m : Int) + 1)) (((pts.map fun c => cnt m [toB c]).sum : Nat) : Int) := by
  have hfit : (pts.map fun c => cnt m [toB c]).sum ≤ 1000000000000 := by
    have h := sum_le (fun c => cnt m [toB c]) (9 ^ m) pts (fun c _ => cnt_le m _)
    have h2 : 9 ^ m ≤ 9 ^ 8 := Nat.pow_le_pow_right (by omega) hm
    have h3 : 9 ^ 8 = 43046721 := rfl
    have h4 : pts.length = 9 := rfl
    rw [h4] at h
    omega
  have lp := many_loop (⟨#[]⟩ : ByteArray) ((m : Int) + 1) m (fun c σ hc hb => by
    have := many_ev m ((⟨#[]⟩ : ByteArray) ++ ⟨#[toB c]⟩) ((m : Int) + 1) σ (okS_ext _ hc) (by rw [ext_size]; show ((0 + 1 : Nat) : Int) + m = _; omega) (by omega) (by rw [bl_ext]; exact hb)
    rwa [bl_ext] at this) pts 0 pts_isP (by rw [Nat.zero_add]; exact hfit)
  rw [← nums_toB] at lp
  have dr : Ev (fun k => drawnF (fun (n : Int) (_ : ByteArray) => wrap64 (n + 1)) false k (⟨#[]⟩ : ByteArray) ((m : Int) + 1) 0) (false, (((pts.map fun c => cnt m [toB c]).sum : Nat) : Int)) := by
    apply Ev.succ; simp only [drawnF]
    refine Ev.neg (by show ¬ ((0 : Int) = (m : Int) + 1); omega) (Ev.pos (by show 0 ≤ 1000; omega) (Ev.bind (Ev.of (impl_nextPoints.mono _) next_empty) (Ev.pos (asc_toB _ pts_isP) ?_)))
    rw [Nat.zero_add] at lp
    exact lp
  obtain ⟨K, hK⟩ := dr
  refine ⟨K, fun k hk => ?_⟩
  show impl_countDrawn.f k _ _ = _
  unfold impl_countDrawn.f
  have := hK k hk
  rw [show drawnF (fun (n : Int) (_ : ByteArray) => wrap64 (n + 1)) false k (⟨#[]⟩ : ByteArray) ((m : Int) + 1) 0 = _ from this]
  rfl
theorem alike (m : Nat) : (pts.map fun c => cnt m [toB c]).sum = 4 * cnt m [49] + 4 * cnt m [50] + cnt m [53] := by
  have t := fun (b : UInt8) (h : isP (b.toNat : Int)) => cnt_turn m [b] (by simp) (allP_one b h)
  have p : ∀ b : UInt8, 49 ≤ b.toNat → b.toNat ≤ 57 → isP (b.toNat : Int) := fun b h1 h2 => ⟨by omega, by omega⟩
  have e1 : cnt m [51] = cnt m [49] := t 49 (p 49 (by decide) (by decide))
  have e2 : cnt m [57] = cnt m [51] := t 51 (p 51 (by decide) (by decide))
  have e3 : cnt m [55] = cnt m [57] := t 57 (p 57 (by decide) (by decide))
  have e4 : cnt m [54] = cnt m [50] := t 50 (p 50 (by decide) (by decide))
  have e5 : cnt m [56] = cnt m [54] := t 54 (p 54 (by decide) (by decide))
  have e6 : cnt m [52] = cnt m [56] := t 56 (p 56 (by decide) (by decide))
  show cnt m [49] + (cnt m [50] + (cnt m [51] + (cnt m [52] + (cnt m [53] + (cnt m [54] + (cnt m [55] + (cnt m [56] + (cnt m [57] + 0)))))))) = _
  omega
theorem one_ok (b : UInt8) (h1 : 49 ≤ b.toNat) (h2 : b.toNat ≤ 57) : okS (⟨#[b]⟩ : ByteArray) := by
  refine ⟨by show 0 < 1; omega, ?_⟩
  show 49 ≤ (b.toNat : Int) ∧ (b.toNat : Int) ≤ 57
  omega
theorem both (long : Int) : ∃ r : Int × Bool, Ev (fun k => spec_CountAllDrawn.f k long) r ∧ Ev (fun k => impl_CountAllDrawn.f k long) r ∧ r = vCA long := by
  have hpl : impl_patternLong.f long = some (decide (1 ≤ long) && decide (long ≤ 9)) := by unfold impl_patternLong.f; rw [in_eq]; rfl
  unfold spec_CountAllDrawn.f impl_CountAllDrawn.f
  cases h2 : (decide (1 ≤ long) && decide (long ≤ 9)) with
  | false => exact ⟨(0, false), Ev.bindc (x := false) (by rw [l1In_eq, h2]) (Ev.no (Ev.now _)), Ev.bindc (x := false) (by rw [hpl, h2]) (Ev.no (Ev.now _)), by unfold vCA; rw [if_neg (by rintro ⟨q1, q2⟩; simp [q1, q2] at h2)]⟩
  | true =>
    have h2' := h2
    simp only [Bool.and_eq_true, decide_eq_true_eq] at h2'
    obtain ⟨m, hm⟩ : ∃ m : Nat, m = (long - 1).toNat := ⟨_, rfl⟩
    have hl : long = (m : Int) + 1 := by omega
    have e1 : wrap64 (long - 1) = (m : Int) := by rw [wrap_id (by omega) (by omega)]; omega
    have im := all_ev m (by omega)
    rw [alike, ← hl] at im
    have f1 := cnt_fit m (by omega) [49]
    have f2 := cnt_fit m (by omega) [50]
    have f3 := cnt_fit m (by omega) [53]
    have s1 := piCount_ev m (⟨#[49]⟩ : ByteArray) (one_ok 49 (by decide) (by decide)) (by show 1 + m ≤ 900; omega) f1
    have s2 := piCount_ev m (⟨#[50]⟩ : ByteArray) (one_ok 50 (by decide) (by decide)) (by show 1 + m ≤ 900; omega) f2
    have s3 := piCount_ev m (⟨#[53]⟩ : ByteArray) (one_ok 53 (by decide) (by decide)) (by show 1 + m ≤ 900; omega) f3
    rw [← e1] at s1 s2 s3
    refine ⟨(((4 * cnt m [49] + 4 * cnt m [50] + cnt m [53] : Nat) : Int), true), Ev.bindc (x := true) (by rw [l1In_eq, h2]) (Ev.yes (Ev.bind s1 (Ev.bind s2 (Ev.bind s3 (Ev.const ?_))))), Ev.bindc (x := true) (by rw [hpl, h2]) (Ev.yes (Ev.bind im (Ev.now _))), by unfold vCA; rw [if_pos h2', alike, ← hm]⟩
    congr 2
    show wrap64 (wrap64 (wrap64 (4 * ((cnt m [49] : Nat) : Int)) + wrap64 (4 * ((cnt m [50] : Nat) : Int))) + ((cnt m [53] : Nat) : Int)) = _
    generalize cnt m [49] = x at *
    generalize cnt m [50] = y at *
    generalize cnt m [53] = z at *
    rw [wrap_id (n := 4 * (x : Int)) (by omega) (by omega), wrap_id (n := 4 * (y : Int)) (by omega) (by omega), wrap_id (n := 4 * (x : Int) + 4 * (y : Int)) (by omega) (by omega), wrap_id (by omega) (by omega)]
    omega
end CountAllDrawn
namespace WheelTurns
/-- The nearer side. -/
def side (a b : Nat) : Int := if (a : Int) - b < 0 then (if (b : Int) - a < 10 - ((b : Int) - a) then (b : Int) - a else 10 - ((b : Int) - a)) else (if (a : Int) - b < 10 - ((a : Int) - b) then (a : Int) - b else 10 - ((a : Int) - b))
def sides : List UInt8 → List UInt8 → Int
  | x :: xs, y :: ys => side x.toNat y.toNat + sides xs ys
  | _, _ => 0
theorem side_bd (a b : Nat) (ha : 48 ≤ a ∧ a ≤ 57) (hb : 48 ≤ b ∧ b ≤ 57) : 0 ≤ side a b ∧ side a b ≤ 10 := by
  unfold side; split <;> split <;> omega
theorem impl_l0 (a b : ByteArray) (hl : (bl a).length = (bl b).length) (h4 : (bl a).length ≤ 4) (da : (bl a).all isDig = true) (db : (bl b).all isDig = true) : ∀ (d i : Nat) (s : Int), i + d = (bl a).length → 0 ≤ s → s ≤ 10 * i →
    Ev (fun k => impl_WheelTurns.l0 k a b s (a.size : Int) i) (s + sides ((bl a).drop i) ((bl b).drop i), true)
  | 0, i, s, hi, h0, h1 => by
    apply Ev.succ
    simp only [impl_WheelTurns.l0]
    refine Ev.neg (by rw [bl_len]; omega) (Ev.const ?_)
    rw [List.drop_of_length_le (l := bl a) (by omega)]; simp [sides]
  | d + 1, i, s, hi, h0, h1 => by
    have hla : i < (bl a).length := by omega
    have hlb : i < (bl b).length := by omega
    have ha := isDig_at da i hla
    have hb := isDig_at db i hlb
    have hs := side_bd _ _ ha hb
    have hsa : a.size = (bl a).length := rfl
    have hsb : b.size = (bl b).length := rfl
    apply Ev.succ
    simp only [impl_WheelTurns.l0, impl_digit.f, impl_size.f, Option.bind_some]
    rw [bt_nat a i hla, bt_nat b i hlb, List.drop_eq_getElem_cons hla, List.drop_eq_getElem_cons hlb]
    refine Ev.yes (Ev.yes (Ev.yes (Ev.yes ?_)))
    have e1 : (((bl a)[i].toNat : Int) - 48) % 256 = ((bl a)[i].toNat : Int) - 48 := Int.emod_eq_of_lt (by omega) (by omega)
    have e2 : (((bl b)[i].toNat : Int) - 48) % 256 = ((bl b)[i].toNat : Int) - 48 := Int.emod_eq_of_lt (by omega) (by omega)
    have e3 : mn (mx (wrap64 ((((bl a)[i].toNat : Int) - 48) % 256 - (((bl b)[i].toNat : Int) - 48) % 256)) (wrap64 (-wrap64 ((((bl a)[i].toNat : Int) - 48) % 256 - (((bl b)[i].toNat : Int) - 48) % 256)))) (wrap64 (10 - mx (wrap64 ((((bl a)[i].toNat : Int) - 48) % 256 - (((bl b)[i].toNat : Int) - 48) % 256)) (wrap64 (-wrap64 ((((bl a)[i].toNat : Int) - 48) % 256 - (((bl b)[i].toNat : Int) - 48) % 256))))) = side (bl a)[i].toNat (bl b)[i].toNat := by
      rw [e1, e2, wrap_id (n := ((bl a)[i].toNat : Int) - 48 - (((bl b)[i].toNat : Int) - 48)) (by omega) (by omega), wrap_id (n := -(((bl a)[i].toNat : Int) - 48 - (((bl b)[i].toNat : Int) - 48))) (by omega) (by omega)]
      generalize (bl a)[i].toNat = x at *
      generalize (bl b)[i].toNat = y at *
      unfold mx
      split
      · rw [wrap_id (by omega) (by omega)]; unfold mn side; split <;> split <;> split <;> omega
      · rw [wrap_id (by omega) (by omega)]; unfold mn side; split <;> split <;> split <;> omega
    rw [e3, wrap_id (n := (i : Int) + 1) (by omega) (by omega), wrap_id (n := s + side (bl a)[i].toNat (bl b)[i].toNat) (by omega) (by omega)]
    have := impl_l0 a b hl h4 da db d (i + 1) (s + side (bl a)[i].toNat (bl b)[i].toNat) (by omega) (by omega) (by omega)
    simp only [sides]
    rw [← Int.add_assoc]
    exact_mod_cast this
theorem least_eq (a b : Int) : spec_l1Least.f a b = some (if a < b then a else b) := by unfold spec_l1Least.f; split <;> rfl
theorem spec_l0 (a b : ByteArray) (hl : (bl a).length = (bl b).length) (h4 : (bl a).length ≤ 4) (da : (bl a).all isDig = true) (db : (bl b).all isDig = true) : ∀ (d i : Nat) (s : Int), i + d = (bl a).length → 0 ≤ s → s ≤ 10 * i →
    Ev (fun k => spec_WheelTurns.l0 k a b s i) (s + sides ((bl a).drop i) ((bl b).drop i), true)
  | 0, i, s, hi, h0, h1 => by
    apply Ev.succ
    simp only [spec_WheelTurns.l0]
    refine Ev.neg (by rw [bl_len]; omega) (Ev.const ?_)
    rw [List.drop_of_length_le (l := bl a) (by omega)]; simp [sides]
  | d + 1, i, s, hi, h0, h1 => by
    have hla : i < (bl a).length := by omega
    have hlb : i < (bl b).length := by omega
    have ha := isDig_at da i hla
    have hb := isDig_at db i hlb
    have hs := side_bd _ _ ha hb
    have hsa : a.size = (bl a).length := rfl
    have hsb : b.size = (bl b).length := rfl
    apply Ev.succ
    simp only [spec_WheelTurns.l0]
    rw [bt_nat a i hla, bt_nat b i hlb, List.drop_eq_getElem_cons hla, List.drop_eq_getElem_cons hlb]
    refine Ev.yes (Ev.yes (Ev.yes ?_))
    rw [wrap_id (n := ((bl a)[i].toNat : Int)) (by omega) (by omega), wrap_id (n := ((bl b)[i].toNat : Int)) (by omega) (by omega), wrap_id (n := ((bl a)[i].toNat : Int) - ((bl b)[i].toNat : Int)) (by omega) (by omega)]
    have eA : spec_l1Abs.f (((bl a)[i].toNat : Int) - ((bl b)[i].toNat : Int)) = some (if ((bl a)[i].toNat : Int) - (bl b)[i].toNat < 0 then ((bl b)[i].toNat : Int) - (bl a)[i].toNat else ((bl a)[i].toNat : Int) - (bl b)[i].toNat) := by
      unfold spec_l1Abs.f spec_l1Most.f
      rw [wrap_id (by omega) (by omega)]
      generalize (bl a)[i].toNat = x at *
      generalize (bl b)[i].toNat = y at *
      split <;> split <;> simp only [Option.bind_some, Option.some.injEq] <;> omega
    refine Ev.bindc eA (Ev.bindc (least_eq _ _) ?_)
    have e3 : (if (if ((bl a)[i].toNat : Int) - (bl b)[i].toNat < 0 then ((bl b)[i].toNat : Int) - (bl a)[i].toNat else ((bl a)[i].toNat : Int) - (bl b)[i].toNat) < wrap64 (10 - (if ((bl a)[i].toNat : Int) - (bl b)[i].toNat < 0 then ((bl b)[i].toNat : Int) - (bl a)[i].toNat else ((bl a)[i].toNat : Int) - (bl b)[i].toNat)) then (if ((bl a)[i].toNat : Int) - (bl b)[i].toNat < 0 then ((bl b)[i].toNat : Int) - (bl a)[i].toNat else ((bl a)[i].toNat : Int) - (bl b)[i].toNat) else wrap64 (10 - (if ((bl a)[i].toNat : Int) - (bl b)[i].toNat < 0 then ((bl b)[i].toNat : Int) - (bl a)[i].toNat else ((bl a)[i].toNat : Int) - (bl b)[i].toNat))) = side (bl a)[i].toNat (bl b)[i].toNat := by
      generalize (bl a)[i].toNat = x at *
      generalize (bl b)[i].toNat = y at *
      unfold side
      by_cases h : (x : Int) - y < 0
      · simp only [if_pos h]; rw [wrap_id (by omega) (by omega)]
      · simp only [if_neg h]; rw [wrap_id (by omega) (by omega)]
    rw [e3, wrap_id (n := (i : Int) + 1) (by omega) (by omega), wrap_id (n := s + side (bl a)[i].toNat (bl b)[i].toNat) (by omega) (by omega)]
    have := spec_l0 a b hl h4 da db d (i + 1) (s + side (bl a)[i].toNat (bl b)[i].toNat) (by omega) (by omega) (by omega)
    simp only [sides]
    rw [← Int.add_assoc]
    exact_mod_cast this
def vWT (a b : ByteArray) : Int × Bool := if (pinB (bl a) = true ∧ pinB (bl b) = true) ∧ (bl a).length = (bl b).length then (sides (bl a) (bl b), true) else (0, false)
theorem both (a b : ByteArray) (h0 : a.size ≤ 9223372036854775807) (h1 : b.size ≤ 9223372036854775807) : ∃ r, Ev (fun k => spec_WheelTurns.f k a b) r ∧ Ev (fun k => impl_WheelTurns.f k a b) r ∧ r = vWT a b := by
  have fs : Ev (fun k => spec_WheelTurns.j0 k a b true) (0, false) := by
    apply Ev.succ; simp only [spec_WheelTurns.j0]; exact Ev.yes (Ev.now _)
  have fi : Ev (fun k => impl_WheelTurns.j0 k a b true) (0, false) := by
    apply Ev.succ; simp only [impl_WheelTurns.j0]; exact Ev.yes (Ev.now _)
  unfold spec_WheelTurns.f impl_WheelTurns.f
  cases pa : pinB (bl a) with
  | false => exact ⟨_, Ev.bind (piPin_ev a) (by rw [pa]; exact Ev.no fs), Ev.bindc (by rw [isPin_eq a h0, pa]) (Ev.no fi), by simp [vWT, pa]⟩
  | true =>
    cases pb : pinB (bl b) with
    | false => exact ⟨_, Ev.bind (piPin_ev a) (by rw [pa]; exact Ev.yes (Ev.bind (piPin_ev b) (by rw [pb]; exact Ev.no fs))), Ev.bindc (by rw [isPin_eq a h0, pa]) (Ev.yes (Ev.bindc (by rw [isPin_eq b h1, pb]) (Ev.no fi))), by simp [vWT, pb]⟩
    | true =>
      obtain ⟨a2, a4, da⟩ := pinB_len pa
      obtain ⟨b2, b4, db⟩ := pinB_len pb
      by_cases hl : (bl a).length = (bl b).length
      · have hne : ((a.size : Int) != (b.size : Int)) = false := by rw [bl_len a, bl_len b, hl]; simp
        refine ⟨(0 + sides ((bl a).drop 0) ((bl b).drop 0), true), Ev.bind (piPin_ev a) (by rw [pa]; refine Ev.yes (Ev.bind (piPin_ev b) ?_); rw [pb, hne]; refine Ev.yes (Ev.succ ?_); simp only [spec_WheelTurns.j0]; exact Ev.no (spec_l0 a b hl a4 da db (bl a).length 0 0 (by omega) (by omega) (by omega))), Ev.bindc (by rw [isPin_eq a h0, pa]) (Ev.yes (Ev.bindc (by rw [isPin_eq b h1, pb]) ?_)), by simp [vWT, pa, pb, hl]⟩
        rw [hne]
        refine Ev.yes (Ev.succ ?_)
        simp only [impl_WheelTurns.j0]
        exact Ev.no (impl_l0 a b hl a4 da db (bl a).length 0 0 (by omega) (by omega) (by omega))
      · have hne : ((a.size : Int) != (b.size : Int)) = true := by rw [bl_len a, bl_len b]; simp; omega
        exact ⟨_, Ev.bind (piPin_ev a) (by rw [pa]; exact Ev.yes (Ev.bind (piPin_ev b) (by rw [pb, hne]; exact Ev.yes fs))), Ev.bindc (by rw [isPin_eq a h0, pa]) (Ev.yes (Ev.bindc (by rw [isPin_eq b h1, pb]) (by rw [hne]; exact Ev.yes fi))), by simp [vWT, hl]⟩
end WheelTurns
namespace TurnWheel
theorem l1Num_dig (n : Nat) (h : n < 10) : Ev (fun k => spec_l1Num.f k (n : Int)) (strOfNums [48 + (n : Int)]) := by
  apply Ev.succ
  simp only [spec_l1Num.f]
  refine Ev.pos (by omega) (Ev.const ?_)
  rw [wrap_id (by omega) (by omega), Int.emod_eq_of_lt (by omega) (by omega)]
theorem dig_cut : ∀ n : Nat, n < 10 → (⟨#[48, 49, 50, 51, 52, 53, 54, 55, 56, 57]⟩ : ByteArray).extract n (n + 1) = strOfNums [48 + (n : Int)] := by
  intro n h
  apply bl_inj
  rw [bl_extract, bl_nums]
  have : ∀ m : Nat, m < 10 → List.take (m + 1 - m) (List.drop m (bl (⟨#[48, 49, 50, 51, 52, 53, 54, 55, 56, 57]⟩ : ByteArray))) = List.map (fun n => UInt8.ofNat n.toNat) [48 + (m : Int)] := by decide
  exact this n h
theorem turn_eq (d : Int) (h : -1000 ≤ d) : Int.tmod (Int.tmod d 10 + 10) 10 = Int.tmod (d + 1000) 10 ∧ -10 < Int.tmod d 10 ∧ Int.tmod d 10 < 10 := by
  rw [Int.tmod_eq_emod_of_nonneg (a := d + 1000) (by omega)]
  by_cases h0 : 0 ≤ d
  · rw [Int.tmod_eq_emod_of_nonneg (a := d) h0, Int.tmod_eq_emod_of_nonneg (by omega)]; omega
  · obtain ⟨m, rfl⟩ : ∃ m, d = -m := ⟨-d, by omega⟩
    rw [Int.neg_tmod, Int.tmod_eq_emod_of_nonneg (a := m) (by omega), Int.tmod_eq_emod_of_nonneg (by omega)]; omega
/-- A wheel turned. -/
def turned (a : ByteArray) (i : Nat) (by_ : Int) : ByteArray := a.extract 0 i ++ strOfNums [48 + ((bt a (i : Int) - 48 + by_) % 10)] ++ a.extract (i + 1) a.size
def vTW (a : ByteArray) (wh by_ : Int) : ByteArray × Bool := if pinB (bl a) = true ∧ (0 ≤ wh ∧ wh ≤ (a.size : Int) - 1) ∧ (-1000 ≤ by_ ∧ by_ ≤ 1000) then (turned a wh.toNat by_, true) else (e0, false)
theorem both (a : ByteArray) (wh by_ : Int) (h0 : a.size ≤ 9223372036854775807) : ∃ r, Ev (fun k => spec_TurnWheel.f k a wh by_) r ∧ impl_TurnWheel.f a wh by_ = some r ∧ r = vTW a wh by_ := by
  unfold spec_TurnWheel.f impl_TurnWheel.f
  rw [isPin_eq a h0]
  simp only [Option.bind_some, in_eq, l1In_eq]
  cases hp : pinB (bl a) with
  | false => exact ⟨_, Ev.bind (piPin_ev a) (by rw [hp]; exact Ev.no (Ev.now _)), by simp, by simp [vTW, e0, hp]⟩
  | true =>
    obtain ⟨l2, l4, ld⟩ := pinB_len hp
    have hsz : a.size = (bl a).length := rfl
    rw [wrap_id (n := (a.size : Int) - 1) (by omega) (by omega)]
    cases hw : (decide (0 ≤ wh) && decide (wh ≤ (a.size : Int) - 1)) with
    | false => exact ⟨_, Ev.bind (piPin_ev a) (by rw [hp]; exact Ev.yes (Ev.no (Ev.now _))), by simp, by unfold vTW; rw [if_neg (by rintro ⟨_, ⟨q1, q2⟩, _⟩; simp [q1, q2] at hw)]; rfl⟩
    | true =>
      simp only [Bool.and_eq_true, decide_eq_true_eq] at hw
      cases hb : (decide (-1000 ≤ by_) && decide (by_ ≤ 1000)) with
      | false => exact ⟨_, Ev.bind (piPin_ev a) (by rw [hp]; exact Ev.yes (Ev.yes (Ev.no (Ev.now _)))), by simp, by unfold vTW; rw [if_neg (by rintro ⟨_, _, q1, q2⟩; simp [q1, q2] at hb)]; rfl⟩
      | true =>
        simp only [Bool.and_eq_true, decide_eq_true_eq] at hb
        obtain ⟨i, rfl⟩ := Int.eq_ofNat_of_zero_le hw.1
        have hi : i < (bl a).length := by omega
        have hd := isDig_at ld i hi
        have hbt := bt_nat a i hi
        simp only [impl_digit.f, hbt, Option.bind_some]
        have hgc : bt a (i : Int) = (((bl a)[i].toNat : Nat) : Int) := bt_nat a i hi
        generalize (bl a)[i].toNat = c at hd hgc
        obtain ⟨n, hn, en⟩ : ∃ n : Nat, n < 10 ∧ ((c : Int) - 48 + by_ + 1000).tmod 10 = n := by
          refine ⟨((c : Int) - 48 + by_ + 1000).toNat % 10, Nat.mod_lt _ (by omega), ?_⟩
          rw [Int.tmod_eq_emod_of_nonneg (by omega)]; omega
        have e1 : ((c : Int) - 48) % 256 = (c : Int) - 48 := Int.emod_eq_of_lt (by omega) (by omega)
        have e2 : wrap64 (wrap64 (((c : Int) - 48) % 256 + by_) + 1000) = (c : Int) - 48 + by_ + 1000 := by
          rw [e1, wrap_id (n := (c : Int) - 48 + by_) (by omega) (by omega), wrap_id (by omega) (by omega)]
        have e3 : Int.tmod (wrap64 (Int.tmod (wrap64 (((c : Int) - 48) % 256 + by_)) 10 + 10)) 10 = (n : Int) := by
          rw [e1, wrap_id (n := (c : Int) - 48 + by_) (by omega) (by omega)]
          obtain ⟨t1, t2, t3⟩ := turn_eq ((c : Int) - 48 + by_) (by omega)
          rw [wrap_id (by omega) (by omega), t1, en]
        rw [e3, e2, wrap_id (n := (n : Int) + 1) (by omega) (by omega), wrap_id (n := (i : Int) + 1) (by omega) (by omega), show ((n : Int) + 1).toNat = n + 1 from by omega, show ((i : Int) + 1).toNat = i + 1 from by omega, Int.toNat_natCast, Int.toNat_natCast, dig_cut n hn]
        have s1 : (strOfNums [48 + (n : Int)]).size = 1 := rfl
        have s2 : (a.extract 0 i).size ≤ 4 := by rw [ByteArray.size_extract]; omega
        have s3 : (a.extract (i + 1) a.size).size ≤ 4 := by rw [ByteArray.size_extract]; omega
        have s4 : (a.extract 0 i ++ strOfNums [48 + (n : Int)]).size ≤ 5 := by rw [ByteArray.size_append]; omega
        refine ⟨(a.extract 0 i ++ strOfNums [48 + (n : Int)] ++ a.extract (i + 1) a.size, true), Ev.bind (piPin_ev a) ?_, ?_, ?_⟩
        · rw [hp, en]
          refine Ev.yes (Ev.yes (Ev.yes (Ev.yes (Ev.yes (Ev.yes (Ev.bind (l1Num_dig n hn) ?_))))))
          exact Ev.yes (Ev.yes (Ev.yes (Ev.yes (Ev.now _))))
        · rw [if_pos trivial, if_pos trivial, if_pos trivial, if_pos (by omega), if_pos (by omega), if_pos (by omega), if_pos (by omega), if_pos (by omega), if_pos (by omega), if_pos (by omega), if_pos (by omega), if_pos (by omega), if_pos (by omega)]
        · unfold vTW
          rw [if_pos ⟨hp, hw, hb⟩]
          unfold turned
          rw [Int.toNat_natCast, hgc, show ((c : Int) - 48 + by_) % 10 = (n : Int) by rw [← en, Int.tmod_eq_emod_of_nonneg (by omega)]; omega]
end TurnWheel
end Go.Proofs.YtfhbclfmnliopaaGreatDoor

namespace Go.Proofs.YtfhbclfmnliopaaGreatDoor
open Go.RowKit Go.Proofs.YtfhbclfmnliopaaGreatDoor.P Go.Proofs.YtfhbclfmnliopaaGreatDoorW.PrintWords
open CountAllDrawn (allP)
set_option linter.unusedSimpArgs false
set_option linter.unusedVariables false
/-! What is true of patterns: mirrored ones are drawn alike, one more point, the first one. -/
/-- Left and right. -/
def mI (c : Int) : Int := if c = 49 then 51 else if c = 51 then 49 else if c = 52 then 54 else if c = 54 then 52 else if c = 55 then 57 else if c = 57 then 55 else c
def mB (b : UInt8) : UInt8 := toB (mI (b.toNat : Int))
theorem mI_isP {c : Int} (h : isP c) : isP (mI c) := by
  obtain ⟨h1, h2⟩ := h
  unfold isP mI
  repeat' split
  all_goals omega
theorem mI_out {c : Int} (h : ¬ isP c) : mI c = c := by
  unfold isP at h
  unfold mI
  repeat' split
  all_goals omega
theorem mI_fin : ∀ a : Fin 9, mI (mI (49 + (a.val : Int))) = 49 + (a.val : Int) := by decide
theorem mI_mI (c : Int) : mI (mI c) = c := by
  by_cases h : isP c
  · obtain ⟨h1, h2⟩ := h
    have := mI_fin ⟨(c - 49).toNat, by omega⟩
    simp only at this
    rwa [show 49 + ((c - 49).toNat : Int) = c by omega] at this
  · rw [mI_out h, mI_out h]
theorem mI_inj {a b : Int} (h : mI a = mI b) : a = b := by rw [← mI_mI a, h, mI_mI]
theorem btw_mir : ∀ a c : Fin 9, btw (mI (49 + (a.val : Int))) (mI (49 + (c.val : Int))) = mI (btw (49 + (a.val : Int)) (49 + (c.val : Int))) := by decide +kernel
theorem btw_mI {a c : Int} (ha : isP a) (hc : isP c) : btw (mI a) (mI c) = mI (btw a c) := by
  obtain ⟨a1, a2⟩ := ha
  obtain ⟨c1, c2⟩ := hc
  have := btw_mir ⟨(a - 49).toNat, by omega⟩ ⟨(c - 49).toNat, by omega⟩
  simp only at this
  rwa [show (49 + ((a - 49).toNat : Int)) = a by omega, show (49 + ((c - 49).toNat : Int)) = c by omega] at this
theorem mB_nat (b : UInt8) (h : isP (b.toNat : Int)) : ((mB b).toNat : Int) = mI (b.toNat : Int) := toB_nat (mI_isP h)
theorem beq_mI (a x : Int) : (mI a == mI x) = (a == x) := by
  rw [Bool.eq_iff_iff, beq_iff_eq, beq_iff_eq]
  exact ⟨mI_inj, fun h => by rw [h]⟩
theorem hasI_mir : ∀ (l : List UInt8), allP l → ∀ x : Int, hasI (l.map mB) (mI x) = hasI l x
  | [], _, x => rfl
  | b :: l, hl, x => by
    have ih := hasI_mir l (fun y hy => hl y (List.mem_cons_of_mem _ hy)) x
    unfold hasI at ih ⊢
    rw [List.map_cons, List.any_cons, List.any_cons, ih, mB_nat b (hl b List.mem_cons_self), beq_mI]
theorem goB_mir (l : List UInt8) (hl : allP l) {a c : Int} (ha : isP a) (hc : isP c) : goB (l.map mB) (mI a) (mI c) = goB l a c := by
  unfold goB
  rw [btw_mI ha hc, hasI_mir l hl]
  congr 1
  have := beq_mI (btw a c) 0
  rwa [show mI 0 = 0 from rfl] at this
theorem chkD_mir (l : List UInt8) (hl : allP l) : ∀ d i : Nat, 0 < i → i + d ≤ l.length → chkD (l.map mB) d i = chkD l d i
  | 0, i, _, _ => rfl
  | d + 1, i, h0, h1 => by
    unfold chkD
    have q1 : i - 1 < l.length := by omega
    have q2 : i < l.length := by omega
    rw [chkD_mir l hl d (i + 1) (by omega) (by omega), getD_at (l.map mB) (i - 1) (by rw [List.length_map]; exact q1), getD_at (l.map mB) i (by rw [List.length_map]; exact q2), getD_at l (i - 1) q1, getD_at l i q2, List.getElem_map, List.getElem_map, mB_nat _ (hl _ (List.getElem_mem q1)), mB_nat _ (hl _ (List.getElem_mem q2)), ← List.map_take, goB_mir _ (fun x hx => hl x (List.mem_of_mem_take hx)) (hl _ (List.getElem_mem q1)) (hl _ (List.getElem_mem q2))]
theorem pat_allP {l : List UInt8} (h : patB l = true) : allP l := fun b hb => by
  have := (patB_spec h).2.2.1 b hb
  exact ⟨by omega, by omega⟩
theorem patB_of {l : List UInt8} (h1 : 1 ≤ l.length) (h2 : l.length ≤ 9) (h3 : allP l) (h4 : l.Nodup) : patB l = true := by
  unfold patB
  simp only [Bool.and_eq_true, decide_eq_true_eq, List.all_eq_true]
  refine ⟨⟨h1, h2⟩, fun c hc => ?_, h4⟩
  obtain ⟨q1, q2⟩ := h3 c hc
  unfold isPt
  rw [Bool.and_eq_true, decide_eq_true_eq, decide_eq_true_eq]
  omega
theorem mB_inj {a b : UInt8} (ha : isP (a.toNat : Int)) (hb : isP (b.toNat : Int)) (h : mB a = mB b) : a = b := by
  have h1 : ((mB a).toNat : Int) = ((mB b).toNat : Int) := by rw [h]
  rw [mB_nat a ha, mB_nat b hb] at h1
  exact (byte_eq _ _).1 (mI_inj h1)
theorem nodup_mir : ∀ l : List UInt8, allP l → l.Nodup → (l.map mB).Nodup
  | [], _, _ => List.Pairwise.nil
  | a :: l, hl, hn => by
    obtain ⟨h1, h2⟩ := List.nodup_cons.1 hn
    rw [List.map_cons, List.nodup_cons]
    refine ⟨fun hm => ?_, nodup_mir l (fun x hx => hl x (List.mem_cons_of_mem _ hx)) h2⟩
    obtain ⟨b, hb, e⟩ := List.mem_map.1 hm
    exact h1 (by rw [← mB_inj (hl b (List.mem_cons_of_mem _ hb)) (hl a List.mem_cons_self) e]; exact hb)
theorem pat_mir {l : List UInt8} (h : patB l = true) : patB (l.map mB) = true := by
  obtain ⟨p1, p2, p3, p4⟩ := patB_spec h
  have ha := pat_allP h
  refine patB_of (by rw [List.length_map]; exact p1) (by rw [List.length_map]; exact p2) (fun b hb => ?_) (nodup_mir l ha p4)
  obtain ⟨c, hc, rfl⟩ := List.mem_map.1 hb
  rw [mB_nat c (ha c hc)]
  exact mI_isP (ha c hc)
theorem drw_mir {l : List UInt8} (h : patB l = true) : drw (l.map mB) = drw l := by
  unfold drw
  obtain ⟨p1, p2, p3, p4⟩ := patB_spec h
  rw [List.length_map]
  exact chkD_mir l (pat_allP h) _ 1 (by omega) (by omega)
theorem mB_mB (b : UInt8) (h : isP (b.toNat : Int)) : mB (mB b) = b := by
  have : ((mB (mB b)).toNat : Int) = (b.toNat : Int) := by rw [mB_nat _ (by rw [mB_nat b h]; exact mI_isP h), mB_nat b h, mI_mI]
  exact (byte_eq _ _).1 this
theorem mir_mir {l : List UInt8} (h : allP l) : (l.map mB).map mB = l := by
  rw [List.map_map]
  conv => rhs; rw [← List.map_id l]
  exact List.map_congr_left fun b hb => mB_mB b (h b hb)
theorem mir_val : ∀ n : Fin 9, 48 + MirrorDrawn.mir (n.val + 1) = mI (49 + (n.val : Int)) := by decide
/-- The mirrored text. -/
theorem bl_mirS {l : List UInt8} (h : allP l) : bl (strOfNums ((MirrorDrawn.mirs l).map (48 + ·))) = l.map mB := by
  rw [bl_nums]
  unfold MirrorDrawn.mirs
  rw [List.map_map, List.map_map]
  refine List.map_congr_left fun b hb => ?_
  obtain ⟨q1, q2⟩ := h b hb
  have := mir_val ⟨b.toNat - 49, by omega⟩
  simp only at this
  rw [show b.toNat - 49 + 1 = b.toNat - 48 by omega, show (49 + ((b.toNat - 49 : Nat) : Int)) = (b.toNat : Int) by omega] at this
  show UInt8.ofNat (48 + MirrorDrawn.mir (b.toNat - 48)).toNat = mB b
  rw [this]
  rfl
/-! ### one point more -/
theorem nodup_len {α : Type} [DecidableEq α] : ∀ (l m : List α), l.Nodup → (∀ x ∈ l, x ∈ m) → l.length ≤ m.length
  | [], _, _, _ => Nat.zero_le _
  | a :: l, m, hn, hs => by
    obtain ⟨h1, h2⟩ := List.nodup_cons.1 hn
    have ha := hs a List.mem_cons_self
    have ih := nodup_len l (m.erase a) h2 (fun x hx => (List.mem_erase_of_ne (fun e => h1 (by rw [← e]; exact hx))).2 (hs x (List.mem_cons_of_mem _ hx)))
    rw [List.length_erase_of_mem ha] at ih
    have : 0 < m.length := List.length_pos_of_mem ha
    rw [List.length_cons]
    omega
def ptsB : List UInt8 := pts.map toB
theorem mem_ptsB {b : UInt8} (h : isP (b.toNat : Int)) : b ∈ ptsB := by
  obtain ⟨h1, h2⟩ := h
  refine List.mem_map.2 ⟨(b.toNat : Int), ?_, of_toNat b⟩
  unfold pts
  simp
  omega
theorem len9 {l : List UInt8} (h : allP l) (hn : l.Nodup) : l.length ≤ 9 := nodup_len l ptsB hn (fun b hb => mem_ptsB (h b hb))
theorem hasI_false {l : List UInt8} {c : Int} (hc : isP c) (h : hasI l c = false) : toB c ∉ l := fun hm => by
  have := (hasI_mem l (toB c)).2 hm
  rw [toB_nat hc, h] at this
  cases this
theorem chkD_snoc (l : List UInt8) (c : UInt8) : ∀ d i : Nat, 0 < i → i + d = l.length → chkD (l ++ [c]) (d + 1) i = (chkD l d i && goB l (lastI l) (c.toNat : Int))
  | 0, i, h0, h1 => by
    have hi : i = l.length := by omega
    unfold chkD chkD
    rw [hi, List.take_left, Bool.and_true]
    unfold lastI
    rw [getD_at (l ++ [c]) (l.length - 1) (by simp; omega), getD_at (l ++ [c]) l.length (by simp), getD_at l (l.length - 1) (by omega), List.getElem_append_left (by omega)]
    simp
  | d + 1, i, h0, h1 => by
    rw [show chkD (l ++ [c]) (d + 1 + 1) i = (goB ((l ++ [c]).take i) (((l ++ [c]).getD (i - 1) 0).toNat : Int) (((l ++ [c]).getD i 0).toNat : Int) && chkD (l ++ [c]) (d + 1) (i + 1)) from rfl, chkD_snoc l c d (i + 1) (by omega) (by omega), show chkD l (d + 1) i = (goB (l.take i) ((l.getD (i - 1) 0).toNat : Int) ((l.getD i 0).toNat : Int) && chkD l d (i + 1)) from rfl, List.take_append_of_le_length (by omega), getD_at (l ++ [c]) (i - 1) (by simp; omega), getD_at (l ++ [c]) i (by simp; omega), getD_at l (i - 1) (by omega), getD_at l i (by omega), List.getElem_append_left (by omega), List.getElem_append_left (by omega), Bool.and_assoc]
theorem drw_snoc {l : List UInt8} (h : 1 ≤ l.length) (c : UInt8) : drw (l ++ [c]) = (drw l && goB l (lastI l) (c.toNat : Int)) := by
  unfold drw
  rw [List.length_append, List.length_singleton, show l.length + 1 - 1 = (l.length - 1) + 1 by omega]
  exact chkD_snoc l c (l.length - 1) 1 (by omega) (by omega)
theorem nxt_mem {l : List UInt8} {c : Int} (h : c ∈ nxt l) : isP c ∧ hasI l c = false ∧ goB l (lastI l) c = true := by
  unfold nxt at h
  obtain ⟨h1, h2⟩ := List.mem_filter.1 h
  unfold goes at h2
  rw [Bool.and_eq_true, Bool.not_eq_true'] at h2
  exact ⟨pts_isP c h1, h2.1, h2.2⟩
theorem snoc_ok {l : List UInt8} (hp : patB l = true) (hd : drw l = true) {c : Int} (h : c ∈ nxt l) : patB (l ++ [toB c]) = true ∧ drw (l ++ [toB c]) = true := by
  obtain ⟨p1, p2, p3, p4⟩ := patB_spec hp
  obtain ⟨q1, q2, q3⟩ := nxt_mem h
  have hal := CountAllDrawn.allP_ext l (pat_allP hp) q1
  have hnd : (l ++ [toB c]).Nodup := by
    rw [List.nodup_append]
    refine ⟨p4, by simp, fun a ha b hb => ?_⟩
    rw [List.mem_singleton.1 hb]
    exact fun e => hasI_false q1 q2 (e ▸ ha)
  refine ⟨patB_of (by simp) (len9 hal hnd) hal hnd, ?_⟩
  rw [drw_snoc p1, hd, toB_nat q1, q3]
  rfl
theorem toB_inj {a b : Int} (ha : isP a) (hb : isP b) (h : toB a = toB b) : a = b := by rw [← toB_nat ha, ← toB_nat hb, h]
theorem nodup_toB : ∀ l : List Int, (∀ c ∈ l, isP c) → l.Nodup → (l.map toB).Nodup
  | [], _, _ => List.Pairwise.nil
  | a :: l, hl, hn => by
    obtain ⟨h1, h2⟩ := List.nodup_cons.1 hn
    rw [List.map_cons, List.nodup_cons]
    refine ⟨fun hm => ?_, nodup_toB l (fun x hx => hl x (List.mem_cons_of_mem _ hx)) h2⟩
    obtain ⟨b, hb, e⟩ := List.mem_map.1 hm
    exact h1 (by rw [← toB_inj (hl b (List.mem_cons_of_mem _ hb)) (hl a List.mem_cons_self) e]; exact hb)
theorem nxt_few {l : List UInt8} (hp : patB l = true) : (nxt l).length + l.length ≤ 9 := by
  obtain ⟨p1, p2, p3, p4⟩ := patB_spec hp
  have hn : (nxt l).Nodup := (show pts.Nodup by decide).sublist List.filter_sublist
  have hx : ∀ c ∈ nxt l, isP c := nxt_isP l
  have hall : allP (l ++ (nxt l).map toB) := by
    intro b hb
    rcases List.mem_append.1 hb with h | h
    · exact pat_allP hp b h
    · obtain ⟨c, hc, rfl⟩ := List.mem_map.1 h
      rw [toB_nat (hx c hc)]; exact hx c hc
  have hnd : (l ++ (nxt l).map toB).Nodup := by
    rw [List.nodup_append]
    refine ⟨p4, nodup_toB _ hx hn, fun a ha b hb => ?_⟩
    obtain ⟨c, hc, rfl⟩ := List.mem_map.1 hb
    obtain ⟨q1, q2, _⟩ := nxt_mem hc
    exact fun e => hasI_false q1 q2 (e ▸ ha)
  have := len9 hall hnd
  rw [List.length_append, List.length_map] at this
  omega
theorem btw_mid : ∀ a c : Fin 9, a.val = c.val ∨ btw (49 + (a.val : Int)) (49 + (c.val : Int)) = 0 ∨ ((49 ≤ btw (49 + (a.val : Int)) (49 + (c.val : Int)) ∧ btw (49 + (a.val : Int)) (49 + (c.val : Int)) ≤ 57) ∧ btw (49 + (a.val : Int)) (btw (49 + (a.val : Int)) (49 + (c.val : Int))) = 0) := by decide +kernel
theorem mem_pts {c : Int} (h : isP c) : c ∈ pts := by
  obtain ⟨h1, h2⟩ := h
  unfold pts
  simp
  omega
theorem last_isP {l : List UInt8} (hp : patB l = true) : isP (lastI l) := by
  obtain ⟨p1, p2, p3, p4⟩ := patB_spec hp
  unfold lastI
  rw [getD_at _ _ (by omega)]
  exact pat_allP hp _ (List.getElem_mem _)
theorem nxt_some {l : List UInt8} (hp : patB l = true) (h9 : l.length < 9) : 0 < (nxt l).length := by
  obtain ⟨c, hc, hh⟩ : ∃ c, isP c ∧ hasI l c = false := by
    apply Classical.byContradiction
    intro hno
    have hall : ∀ c, isP c → hasI l c = true := fun c hc => by
      cases h : hasI l c with
      | true => rfl
      | false => exact absurd ⟨c, hc, h⟩ hno
    have := nodup_len ptsB l (by decide) (fun b hb => by
      obtain ⟨c, hc, rfl⟩ := List.mem_map.1 hb
      have q := hall c (pts_isP c hc)
      rw [← toB_nat (pts_isP c hc)] at q
      exact (hasI_mem l _).1 q)
    have e : ptsB.length = 9 := rfl
    omega
  obtain ⟨a1, a2⟩ := last_isP hp
  obtain ⟨c1, c2⟩ := hc
  have hm := btw_mid ⟨(lastI l - 49).toNat, by omega⟩ ⟨(c - 49).toNat, by omega⟩
  simp only at hm
  rw [show (49 + ((lastI l - 49).toNat : Int)) = lastI l by omega, show (49 + ((c - 49).toNat : Int)) = c by omega] at hm
  have put : ∀ x, isP x → hasI l x = false → goB l (lastI l) x = true → 0 < (nxt l).length := fun x h1 h2 h3 => by
    refine List.length_pos_of_mem (a := x) (List.mem_filter.2 ⟨mem_pts h1, ?_⟩)
    unfold goes
    rw [h2, h3]
    rfl
  have hne : lastI l ≠ c := by
    intro e
    rw [← e] at hh
    have : hasI l (lastI l) = true := by
      unfold lastI
      rw [getD_at _ _ (by have := (patB_spec hp).1; omega)]
      exact (hasI_mem _ _).2 (List.getElem_mem _)
    rw [this] at hh
    cases hh
  rcases hm with hm | hm | ⟨hm1, hm2⟩
  · exact absurd (show lastI l = c by omega) hne
  · exact put c ⟨c1, c2⟩ hh (by unfold goB; rw [hm]; rfl)
  · cases hb : hasI l (btw (lastI l) c) with
    | true => exact put c ⟨c1, c2⟩ hh (by unfold goB; rw [hb]; simp)
    | false => exact put (btw (lastI l) c) hm1 hb (by unfold goB; rw [hm2]; rfl)
theorem nxt_asc (l : List UInt8) : (nxt l).Pairwise (· < ·) := (show pts.Pairwise (· < ·) by decide).sublist List.filter_sublist
/-- One point less. -/
theorem less_ok {l : List UInt8} (hp : patB l = true) (hd : drw l = true) (h2 : 1 < l.length) : patB (l.take (l.length - 1)) = true ∧ drw (l.take (l.length - 1)) = true := by
  obtain ⟨p1, p2, p3, p4⟩ := patB_spec hp
  have e : l = l.take (l.length - 1) ++ [l[l.length - 1]] := by
    have := List.take_succ_eq_append_getElem (l := l) (i := l.length - 1) (by omega)
    rw [← this, List.take_of_length_le (by omega)]
  have hlen : (l.take (l.length - 1)).length = l.length - 1 := by rw [List.length_take]; omega
  refine ⟨patB_of (by omega) (by omega) (fun b hb => pat_allP hp b (List.mem_of_mem_take hb)) (p4.sublist (List.take_sublist _ _)), ?_⟩
  rw [e, drw_snoc (by omega), Bool.and_eq_true] at hd
  exact hd.1
/-! ### the first one -/
theorem fst1_spec : ∀ (m : Nat) (s : ByteArray), patB (bl s) = true → drw (bl s) = true →
    (∃ r, fst1 m s = some r ∧ 0 < cnt m (bl s) ∧ patB (bl r) = true ∧ drw (bl r) = true ∧ (bl r).length = (bl s).length + m ∧ (bl r).take (bl s).length = bl s) ∨ (fst1 m s = none ∧ cnt m (bl s) = 0)
  | 0, s, hp, hd => .inl ⟨s, rfl, by unfold cnt; omega, hp, hd, by omega, by rw [List.take_length]⟩
  | m + 1, s, hp, hd => by
    unfold fst1 cnt
    have key : ∀ cs : List Int, (∀ c ∈ cs, c ∈ nxt (bl s)) → (∃ r, (cs.findSome? fun c => fst1 m (s ++ ⟨#[toB c]⟩)) = some r ∧ 0 < (cs.map fun c => cnt m (bl s ++ [toB c])).sum ∧ patB (bl r) = true ∧ drw (bl r) = true ∧ (bl r).length = (bl s).length + (m + 1) ∧ (bl r).take (bl s).length = bl s) ∨ ((cs.findSome? fun c => fst1 m (s ++ ⟨#[toB c]⟩)) = none ∧ (cs.map fun c => cnt m (bl s ++ [toB c])).sum = 0) := by
      intro cs
      induction cs with
      | nil => exact fun _ => .inr ⟨rfl, rfl⟩
      | cons c cs ih =>
        intro hcs
        obtain ⟨x1, x2⟩ := snoc_ok hp hd (hcs c List.mem_cons_self)
        have h1 := fst1_spec m (s ++ ⟨#[toB c]⟩) (by rw [bl_ext]; exact x1) (by rw [bl_ext]; exact x2)
        rw [List.findSome?_cons, List.map_cons, List.sum_cons]
        rcases h1 with ⟨r, e1, e2, e3, e4, e5, e6⟩ | ⟨e1, e2⟩
        · left
          rw [bl_ext] at e2 e5 e6
          refine ⟨r, by rw [e1], by omega, e3, e4, by rw [e5, List.length_append, List.length_singleton]; omega, ?_⟩
          have := congrArg (List.take (bl s).length) e6
          rw [List.take_take, List.length_append, List.length_singleton, Nat.min_eq_left (by omega), List.take_left] at this
          exact this
        · rw [e1]
          rw [bl_ext] at e2
          rcases ih (fun x hx => hcs x (List.mem_cons_of_mem _ hx)) with ⟨r, i1, i2, i3⟩ | ⟨i1, i2⟩
          · exact .inl ⟨r, i1, by omega, i3⟩
          · exact .inr ⟨i1, by omega⟩
    exact key (nxt (bl s)) (fun _ h => h)
theorem one_drw (b : UInt8) : drw [b] = true := rfl
/-- A text that is one point. -/
theorem one_pt {s : ByteArray} (h : s.size = 1 ∧ patB (bl s) = true) : ∃ b : UInt8, bl s = [b] ∧ isP (b.toNat : Int) := by
  obtain ⟨b, hb⟩ : ∃ b, bl s = [b] := by
    have : (bl s).length = 1 := by rw [← bl_len]; exact h.1
    match bl s, this with
    | [b], _ => exact ⟨b, rfl⟩
  exact ⟨b, hb, pat_allP h.2 b (by rw [hb]; simp)⟩
theorem mem_sum (f : Int → Nat) : ∀ (cs : List Int) (c : Int), c ∈ cs → f c ≤ (cs.map f).sum
  | [], c, h => by cases h
  | a :: cs, c, h => by
    rw [List.map_cons, List.sum_cons]
    rcases List.mem_cons.1 h with rfl | h
    · omega
    · have := mem_sum f cs c h; omega
/-! ### wheels -/
theorem side_sym (a b : Nat) (ha : 48 ≤ a ∧ a ≤ 57) (hb : 48 ≤ b ∧ b ≤ 57) : WheelTurns.side a b = WheelTurns.side b a := by
  unfold WheelTurns.side; repeat' split
  all_goals omega
theorem side_bd5 (a b : Nat) (ha : 48 ≤ a ∧ a ≤ 57) (hb : 48 ≤ b ∧ b ≤ 57) : 0 ≤ WheelTurns.side a b ∧ WheelTurns.side a b ≤ 5 ∧ (WheelTurns.side a b = 0 ↔ a = b) := by
  unfold WheelTurns.side; repeat' split
  all_goals omega
theorem dig_at {l : List UInt8} (h : l.all isDig = true) : ∀ c ∈ l, 48 ≤ c.toNat ∧ c.toNat ≤ 57 := fun c hc => by
  have := List.all_eq_true.1 h c hc
  unfold isDig at this
  rw [Bool.and_eq_true, decide_eq_true_eq, decide_eq_true_eq] at this
  exact this
theorem sides_sym : ∀ a b : List UInt8, (∀ c ∈ a, 48 ≤ c.toNat ∧ c.toNat ≤ 57) → (∀ c ∈ b, 48 ≤ c.toNat ∧ c.toNat ≤ 57) → WheelTurns.sides a b = WheelTurns.sides b a
  | [], [], _, _ => rfl
  | [], _ :: _, _, _ => rfl
  | _ :: _, [], _, _ => rfl
  | x :: a, y :: b, ha, hb => by
    unfold WheelTurns.sides
    rw [side_sym _ _ (ha x List.mem_cons_self) (hb y List.mem_cons_self), sides_sym a b (fun c hc => ha c (List.mem_cons_of_mem _ hc)) (fun c hc => hb c (List.mem_cons_of_mem _ hc))]
theorem sides_bd : ∀ a b : List UInt8, (∀ c ∈ a, 48 ≤ c.toNat ∧ c.toNat ≤ 57) → (∀ c ∈ b, 48 ≤ c.toNat ∧ c.toNat ≤ 57) → a.length = b.length → 0 ≤ WheelTurns.sides a b ∧ WheelTurns.sides a b ≤ 5 * (a.length : Int) ∧ (WheelTurns.sides a b = 0 ↔ a = b)
  | [], [], _, _, _ => ⟨by decide, by decide, by simp [WheelTurns.sides]⟩
  | [], _ :: _, _, _, h => by cases h
  | _ :: _, [], _, _, h => by cases h
  | x :: a, y :: b, ha, hb, h => by
    obtain ⟨i1, i2, i3⟩ := sides_bd a b (fun c hc => ha c (List.mem_cons_of_mem _ hc)) (fun c hc => hb c (List.mem_cons_of_mem _ hc)) (by simpa using h)
    obtain ⟨s1, s2, s3⟩ := side_bd5 _ _ (ha x List.mem_cons_self) (hb y List.mem_cons_self)
    unfold WheelTurns.sides
    refine ⟨by omega, by rw [List.length_cons]; omega, ?_⟩
    constructor
    · intro e
      have e1 : x = y := UInt8.toNat_inj.1 (s3.1 (by omega))
      rw [e1, i3.1 (by omega)]
    · intro e
      injection e with e1 e2
      rw [s3.2 (by rw [e1]), i3.2 e2]
      rfl
end Go.Proofs.YtfhbclfmnliopaaGreatDoor

namespace Go.Proofs.YtfhbclfmnliopaaGreatDoor
open Go.RowKit Go.Proofs.YtfhbclfmnliopaaGreatDoor.P Go.Proofs.YtfhbclfmnliopaaGreatDoorW.PrintWords
open TurnWheel (turned vTW) 
open WheelTurns (vWT side sides)
set_option linter.unusedSimpArgs false
set_option linter.unusedVariables false
/-! The law's last parts: wheels, counts, the first pattern. -/
theorem turned_bl (a : ByteArray) (i : Nat) (by_ : Int) (hi : i < (bl a).length) : bl (turned a i by_) = (bl a).set i (UInt8.ofNat (48 + ((((bl a)[i].toNat : Nat) : Int) - 48 + by_) % 10).toNat) := by
  unfold turned
  have hsz : a.size = (bl a).length := rfl
  rw [bl_append, bl_append, bl_nums, bl_extract, bl_extract, bt_nat a i hi, List.drop_zero, Nat.sub_zero, List.take_of_length_le (l := (bl a).drop (i + 1)) (by rw [List.length_drop]; omega), List.set_eq_take_append_cons_drop, if_pos hi, List.append_assoc]
  rfl
theorem side_self (a : Nat) : side a a = 0 := by unfold side; split <;> split <;> omega
theorem sides_self : ∀ l : List UInt8, sides l l = 0
  | [] => rfl
  | x :: l => by unfold sides; rw [side_self, sides_self l]; rfl
theorem sides_set (y : UInt8) : ∀ (l : List UInt8) (i : Nat) (h : i < l.length), sides l (l.set i y) = side l[i].toNat y.toNat
  | x :: l, 0, h => by
    rw [List.set_cons_zero]
    unfold sides
    rw [sides_self]
    simp
  | x :: l, i + 1, h => by
    rw [List.set_cons_succ]
    unfold sides
    rw [side_self, sides_set y l i (by simpa using h)]
    simp
/-- The nearer way. -/
def near (by_ : Int) : Int := if by_ % 10 ≤ 5 then by_ % 10 else 10 - by_ % 10
theorem side_near (d : Nat) (hd : d < 10) (by_ : Int) : side (48 + d) (48 + (((d : Int) + by_) % 10).toNat) = near by_ := by
  unfold side near
  have h1 : ((d : Int) + by_) % 10 = ((d : Int) + by_ % 10) % 10 := by omega
  rw [h1]
  have h2 : 0 ≤ by_ % 10 ∧ by_ % 10 < 10 := by omega
  generalize by_ % 10 = m at h2
  have h3 : (((d : Int) + m) % 10).toNat = if (d : Int) + m < 10 then d + m.toNat else d + m.toNat - 10 := by split <;> omega
  rw [h3]
  repeat' split
  all_goals omega
theorem step_near (by_ : Int) : (if Int.tmod by_ 10 < 0 then (if wrap64 (-(Int.tmod by_ 10)) > 5 then wrap64 (10 - wrap64 (-(Int.tmod by_ 10))) else wrap64 (-(Int.tmod by_ 10))) else (if Int.tmod by_ 10 > 5 then wrap64 (10 - Int.tmod by_ 10) else Int.tmod by_ 10)) = near by_ := by
  unfold near
  by_cases h : 0 ≤ by_
  · rw [Int.tmod_eq_emod_of_nonneg h]
    have h2 : 0 ≤ by_ % 10 ∧ by_ % 10 < 10 := by omega
    generalize by_ % 10 = m at h2
    rw [if_neg (by omega)]
    by_cases q : m > 5
    · rw [if_pos q, if_neg (by omega), wrap_id (by omega) (by omega)]
    · rw [if_neg q, if_pos (by omega)]
  · obtain ⟨n, rfl⟩ : ∃ n, by_ = -n := ⟨-by_, by omega⟩
    rw [Int.neg_tmod, Int.tmod_eq_emod_of_nonneg (a := n) (by omega)]
    have h2 : 0 ≤ n % 10 ∧ n % 10 < 10 := by omega
    have h3 : (-n) % 10 = if n % 10 = 0 then 0 else 10 - n % 10 := by split <;> omega
    rw [h3]
    generalize n % 10 = m at h2
    by_cases q0 : m = 0
    · subst q0
      rfl
    · rw [if_neg q0, if_pos (by omega), Int.neg_neg, wrap_id (n := m) (by omega) (by omega)]
      by_cases q : m > 5
      · rw [if_pos q, if_pos (by omega), wrap_id (by omega) (by omega)]
      · rw [if_neg q]
        by_cases q5 : m = 5
        · subst q5; rfl
        · rw [if_neg (by omega)]; omega
theorem key_cut : ∀ i : Fin 9, bl ((⟨#[49, 50, 51, 52, 53, 54, 55, 56, 57]⟩ : ByteArray).extract i.val (i.val + 1)) = [toB (49 + (i.val : Int))] := by decide +kernel
theorem j14_ev (a : ByteArray) (s M : Int) (h : M = if s > 5 then wrap64 (10 - s) else s) : Ev (fun k => laws_FnPatternsDrawn.j14 k a a true M true s) true := by
  apply Ev.succ; simp only [laws_FnPatternsDrawn.j14]
  by_cases c : s > 5
  · rw [if_pos c] at h
    exact Ev.pos c (Ev.pos (by trivial) (Ev.pos (by trivial) (Ev.pos (by trivial) (Ev.pos h (Ev.now _)))))
  · rw [if_neg c] at h
    exact Ev.neg c (Ev.pos (by trivial) (Ev.pos (by trivial) (Ev.pos (by trivial) (Ev.pos h (Ev.now _)))))
theorem j13_ev (a : ByteArray) (wh by_ : Int) (ha : a.size ≤ 100) (x51 : ByteArray) (x52 : Bool) (e : (x51, x52) = vTW a wh by_) : Ev (fun k => laws_FnPatternsDrawn.j13 k a wh by_ x51 x52) true := by
  unfold vTW at e
  split at e
  · rename_i h
    obtain ⟨hp, hw, hb⟩ := h
    obtain ⟨rfl, rfl⟩ := Prod.mk.inj e
    obtain ⟨l2, l4, ld⟩ := pinB_len hp
    have hsz : a.size = (bl a).length := rfl
    obtain ⟨i, rfl⟩ := Int.eq_ofNat_of_zero_le hw.1
    have hi : i < (bl a).length := by omega
    rw [Int.toNat_natCast]
    have hd := dig_at ld _ (List.getElem_mem hi)
    have hbl := turned_bl a i by_ hi
    obtain ⟨T, hT⟩ : ∃ T, T = turned a i by_ := ⟨_, rfl⟩
    rw [← hT] at hbl ⊢
    obtain ⟨d, hd10, hde⟩ : ∃ d : Nat, d < 10 ∧ (bl a)[i].toNat = 48 + d := ⟨(bl a)[i].toNat - 48, by omega, by omega⟩
    obtain ⟨n, hn10, hne⟩ : ∃ n : Nat, n < 10 ∧ ((((bl a)[i].toNat : Nat) : Int) - 48 + by_) % 10 = n := ⟨(((((bl a)[i].toNat : Nat) : Int) - 48 + by_) % 10).toNat, by omega, by omega⟩
    have hnd : n = (((d : Int) + by_) % 10).toNat := by rw [hde] at hne; omega
    rw [hne, show (48 + (n : Int)).toNat = 48 + n by omega] at hbl
    have hyn : (UInt8.ofNat (48 + n)).toNat = 48 + n := by simp; omega
    have hTd : ∀ c ∈ bl T, 48 ≤ c.toNat ∧ c.toNat ≤ 57 := by
      rw [hbl]
      intro c hc
      rcases List.mem_or_eq_of_mem_set hc with h | h
      · exact dig_at ld c h
      · rw [h, hyn]; omega
    have hTp : pinB (bl T) = true := by
      unfold pinB digsB
      have : (bl T).length = (bl a).length := by rw [hbl, List.length_set]
      rw [this]
      simp only [Bool.and_eq_true, decide_eq_true_eq, List.all_eq_true]
      refine ⟨⟨l2, l4⟩, fun c hc => ?_⟩
      have := hTd c hc
      unfold isDig
      rw [Bool.and_eq_true, decide_eq_true_eq, decide_eq_true_eq]
      exact this
    have hTz : T.size = a.size := by rw [bl_len, hbl, List.length_set]; rfl
    have hTi : i < (bl T).length := by rw [hbl, List.length_set]; exact hi
    have eb : wrap64 (-by_) = -by_ := wrap_id (by omega) (by omega)
    -- home
    obtain ⟨r1, _, t1, t2⟩ := TurnWheel.both T (i : Int) (-by_) (by omega)
    have hback : vTW T (i : Int) (-by_) = (a, true) := by
      unfold vTW
      rw [if_pos ⟨hTp, by omega, by omega⟩, Int.toNat_natCast]
      congr 1
      apply bl_inj
      rw [turned_bl T i (-by_) hTi]
      have hg : (bl T)[i].toNat = 48 + n := by
        have : (bl T)[i] = UInt8.ofNat (48 + n) := by
          have h1 : (bl T)[i]? = some (UInt8.ofNat (48 + n)) := by rw [hbl, List.getElem?_set_self hi]
          rw [List.getElem?_eq_getElem hTi] at h1
          exact Option.some.inj h1
        rw [this, hyn]
      rw [hg, hbl, List.set_set]
      have hz : (48 + ((((48 + n : Nat) : Int)) - 48 + -by_) % 10).toNat = (bl a)[i].toNat := by rw [hde]; omega
      rw [hz, show UInt8.ofNat (bl a)[i].toNat = (bl a)[i] by simp, List.set_getElem_self]
    rw [hback] at t2
    rw [t2] at t1
    -- far
    obtain ⟨r2, _, w1, w2⟩ := WheelTurns.both a T (by omega) (by omega)
    have hfar : vWT a T = (near by_, true) := by
      unfold vWT
      rw [if_pos ⟨⟨hp, hTp⟩, by rw [hbl, List.length_set]⟩]
      congr 1
      rw [hbl, sides_set _ _ i hi, hde, hyn, hnd]
      exact side_near d hd10 by_
    rw [hfar] at w2
    rw [w2] at w1
    apply Ev.succ; simp only [laws_FnPatternsDrawn.j13]
    rw [eb]
    refine Ev.pos (by trivial) (Ev.bindc t1 (Ev.bind w1 ?_))
    have st := step_near by_
    by_cases c : Int.tmod by_ 10 < 0
    · rw [if_pos c] at st
      exact Ev.pos c (j14_ev a _ _ st.symm)
    · rw [if_neg c] at st
      exact Ev.neg c (j14_ev a _ _ st.symm)
  · obtain ⟨rfl, rfl⟩ := Prod.mk.inj e
    apply Ev.succ; simp only [laws_FnPatternsDrawn.j13]
    exact Ev.neg (by decide) (Ev.now _)
section
variable (p : ByteArray) (wh by_ : Int) (hp : p.size ≤ 100) (x51 : ByteArray) (x52 : Bool) (e5 : (x51, x52) = vTW p wh by_)
include hp e5
theorem j12_ev (a b : ByteArray) (ha : a.size ≤ 100) (hb : b.size ≤ 100) (x44 : Int) (x45 : Bool) (e : (x44, x45) = vWT a b) : Ev (fun k => laws_FnPatternsDrawn.j12 k a b x44 x45 p wh by_ x51 x52) true := by
  have last := j13_ev p wh by_ hp x51 x52 e5
  unfold vWT at e
  split at e
  · rename_i h
    obtain ⟨⟨h1, h2⟩, h3⟩ := h
    obtain ⟨rfl, rfl⟩ := Prod.mk.inj e
    obtain ⟨_, _, da⟩ := pinB_len h1
    obtain ⟨_, _, db⟩ := pinB_len h2
    obtain ⟨r2, _, w1, w2⟩ := WheelTurns.both b a (by omega) (by omega)
    have hv : vWT b a = (sides (bl a) (bl b), true) := by
      unfold vWT
      rw [if_pos ⟨⟨h2, h1⟩, h3.symm⟩, sides_sym _ _ (dig_at db) (dig_at da)]
    rw [hv] at w2
    rw [w2] at w1
    obtain ⟨s1, s2, s3⟩ := sides_bd _ _ (dig_at da) (dig_at db) h3
    have hsz : a.size = (bl a).length := rfl
    apply Ev.succ; simp only [laws_FnPatternsDrawn.j12]
    refine Ev.pos (by trivial) (Ev.bind w1 (Ev.pos (by trivial) (Ev.pos (by trivial) (Ev.neg (by omega) (Ev.neg (by rw [wrap_id (by omega) (by omega)]; omega) (Ev.neg ?_ last))))))
    rw [bl_toList, bl_toList]
    have : (sides (bl a) (bl b) == 0) = (bl a == bl b) := by rw [Bool.eq_iff_iff, beq_iff_eq, beq_iff_eq]; exact s3
    rw [this]
    simp
  · obtain ⟨rfl, rfl⟩ := Prod.mk.inj e
    apply Ev.succ; simp only [laws_FnPatternsDrawn.j12]
    exact Ev.neg (by decide) last
variable (a b : ByteArray) (ha : a.size ≤ 100) (hb : b.size ≤ 100) (x44 : Int) (x45 : Bool) (e4 : (x44, x45) = vWT a b)
include ha hb e4
omit hp e5 ha hb e4 in
theorem cut_ev (n : Int) (h1 : 1 ≤ n) (h9 : n ≤ 9) (i : Nat) (hi : i < 9) : Ev (fun k => impl_CountDrawn.f k ((⟨#[49, 50, 51, 52, 53, 54, 55, 56, 57]⟩ : ByteArray).extract i (i + 1)) n) (((cnt (n - 1).toNat [toB (49 + (i : Int))] : Nat) : Int), true) := by
  have hcut := key_cut ⟨i, hi⟩
  simp only at hcut
  generalize (⟨#[49, 50, 51, 52, 53, 54, 55, 56, 57]⟩ : ByteArray).extract i (i + 1) = S at hcut ⊢
  have hSz : S.size = 1 := by rw [bl_len, hcut]; rfl
  have hip : isP (49 + (i : Int)) := ⟨by omega, by omega⟩
  have hpat : patB (bl S) = true := by
    rw [hcut]
    refine patB_of (by simp) (by simp) (fun x hx => ?_) (by simp)
    rw [List.mem_singleton.1 hx, toB_nat hip]
    exact hip
  obtain ⟨r, _, c1, c2⟩ := CountDrawn.both S (by omega) n
  have hv : vCD S n = (((cnt (n - 1).toNat [toB (49 + (i : Int))] : Nat) : Int), true) := by
    unfold vCD
    rw [if_pos ⟨⟨hSz, hpat⟩, h1, h9⟩, hcut]
  rw [c2, hv] at c1
  exact c1
theorem l1_ev (n : Int) (F : Int → Nat) (hF : ∀ c, F c ≤ 1000000000000) (hC : ∀ i : Nat, i < 9 → Ev (fun k => impl_CountDrawn.f k ((⟨#[49, 50, 51, 52, 53, 54, 55, 56, 57]⟩ : ByteArray).extract i (i + 1)) n) ((F (49 + (i : Int)) : Int), true)) (T : Nat) (hT : T ≤ 9000000000000) : ∀ (d i : Nat) (acc : Nat), i + d = 9 → acc + ((pts.drop i).map F).sum = T →
    Ev (fun k => laws_FnPatternsDrawn.l1 k n (T : Int) a b x44 x45 p wh by_ x51 x52 (acc : Int) (i : Int)) true
  | 0, i, acc, hi, hs => by
    obtain rfl : i = 9 := by omega
    have h0 : ((pts.drop 9).map F).sum = 0 := rfl
    rw [h0] at hs
    have hl := j12_ev p wh by_ hp x51 x52 e5 a b ha hb x44 x45 e4
    have e9 : (acc : Int) = (T : Int) := by omega
    apply Ev.succ; simp only [laws_FnPatternsDrawn.l1]
    exact Ev.neg (by decide) (Ev.pos e9 hl)
  | d + 1, i, acc, hi, hs => by
    have hi9 : i < 9 := by omega
    obtain ⟨_, q2⟩ := pts_at i hi9
    rw [q2, List.map_cons, List.sum_cons, ← Nat.add_assoc] at hs
    have e1 : wrap64 ((i : Int) + 1) = ((i + 1 : Nat) : Int) := by rw [wrap_id (by omega) (by omega)]; omega
    have c1 := hC i hi9
    have f1 := hF (49 + (i : Int))
    have ih := l1_ev n F hF hC T hT d (i + 1) (acc + F (49 + (i : Int))) (by omega) hs
    generalize F (49 + (i : Int)) = C at f1 hs c1 ih
    generalize (List.map F (List.drop (i + 1) pts)).sum = R at hs
    have hacc : acc + C ≤ 9000000000000 := by omega
    have e2 : wrap64 ((acc : Int) + (C : Int)) = ((acc + C : Nat) : Int) := by rw [wrap_id (by omega) (by omega)]; omega
    have b1 : ((i : Nat) : Int) < 9 := by omega
    have b2 : (0 : Int) ≤ ((i : Nat) : Int) := by omega
    have b3 : ((i : Nat) : Int) ≤ ((i + 1 : Nat) : Int) := by omega
    have b4 : ((i + 1 : Nat) : Int) ≤ 9 := by omega
    clear hs hacc f1
    apply Ev.succ; simp only [laws_FnPatternsDrawn.l1, e1, Int.toNat_natCast]
    refine Ev.pos b1 (Ev.pos b2 (Ev.pos b3 (Ev.pos b4 (Ev.bind c1 (Ev.pos (by trivial) ?_)))))
    rw [e2]
    exact ih
theorem j9_ev (n : Int) (x38 : Int) (x39 : Bool) (e3 : (x38, x39) = vCA n) : Ev (fun k => laws_FnPatternsDrawn.j9 k n x38 x39 a b x44 x45 p wh by_ x51 x52) true := by
  have last := j12_ev p wh by_ hp x51 x52 e5 a b ha hb x44 x45 e4
  apply Ev.succ; simp only [laws_FnPatternsDrawn.j9]
  unfold vCA at e3
  split at e3
  · rename_i h
    obtain ⟨rfl, rfl⟩ := Prod.mk.inj e3
    refine Ev.pos (by trivial) (Ev.succ ?_)
    simp only [laws_FnPatternsDrawn.j10]
    by_cases c : n ≤ 4
    · have hF : ∀ c, cnt (n - 1).toNat [toB c] ≤ 1000000000000 := fun c => cnt_fit _ (by omega) _
      have hT := sum_le (fun c => cnt (n - 1).toNat [toB c]) 1000000000000 pts (fun c _ => hF c)
      have hl := l1_ev p wh by_ hp x51 x52 e5 a b ha hb x44 x45 e4 n (fun c => cnt (n - 1).toNat [toB c]) hF (fun i hi => cut_ev n h.1 h.2 i hi) _ hT 9 0 0 rfl (by rw [List.drop_zero, Nat.zero_add])
      exact Ev.pos (decide_eq_true c) hl
    · exact Ev.neg (by rw [decide_eq_true_eq]; exact c) last
  · obtain ⟨rfl, rfl⟩ := Prod.mk.inj e3
    refine Ev.neg (by decide) (Ev.succ ?_)
    simp only [laws_FnPatternsDrawn.j10]
    exact Ev.neg (by decide) last
variable (n : Int) (x38 : Int) (x39 : Bool) (e3 : (x38, x39) = vCA n)
include e3
theorem j7_ev (s : ByteArray) (long : Int) (x29 : Int) (x30 : Bool) (e1 : (x29, x30) = vCD s long) : Ev (fun k => laws_FnPatternsDrawn.j7 k long x29 x30 n x38 x39 a b x44 x45 p wh by_ x51 x52) true := by
  have last := j9_ev p wh by_ hp x51 x52 e5 a b ha hb x44 x45 e4 n x38 x39 e3
  apply Ev.succ; simp only [laws_FnPatternsDrawn.j7]
  unfold vCD at e1
  split at e1
  · rename_i h
    obtain ⟨rfl, rfl⟩ := Prod.mk.inj e1
    refine Ev.pos (by trivial) (Ev.succ ?_)
    simp only [laws_FnPatternsDrawn.j8]
    by_cases c : long ≤ 5
    · obtain ⟨r, _, c1, c2⟩ := CountAllDrawn.both long
      have hv : vCA long = ((((pts.map fun c => cnt (long - 1).toNat [toB c]).sum : Nat) : Int), true) := by unfold vCA; rw [if_pos h.2]
      rw [hv] at c2
      rw [c2] at c1
      obtain ⟨x, hx, hxp⟩ := one_pt h.1
      have hle := mem_sum (fun c => cnt (long - 1).toNat [toB c]) pts (x.toNat : Int) (mem_pts hxp)
      have ex : toB (x.toNat : Int) = x := of_toNat x
      simp only [ex] at hle
      rw [hx]
      have hle' : ¬ (((cnt (long - 1).toNat [x] : Nat) : Int) > (((pts.map fun c => cnt (long - 1).toNat [toB c]).sum : Nat) : Int)) := fun hgt => absurd hle (Nat.not_le.2 (Int.ofNat_lt.1 hgt))
      exact Ev.pos (decide_eq_true c) (Ev.bind c1 (Ev.pos (by trivial) (Ev.neg hle' last)))
    · exact Ev.neg (by rw [decide_eq_true_eq]; exact c) last
  · obtain ⟨rfl, rfl⟩ := Prod.mk.inj e1
    refine Ev.neg (by decide) (Ev.succ ?_)
    simp only [laws_FnPatternsDrawn.j8]
    exact Ev.neg (by decide) last
omit hp e5 ha hb e4 e3 in
theorem first_facts (s : ByteArray) (long : Int) : (vCD s long).2 = (decide (s.size = 1) && patB (bl s) && decide (1 ≤ long) && decide (long ≤ 9)) ∧
    (((vFD s long).2 = true ∧ 0 < (vCD s long).1 ∧ (vCD s long).2 = true ∧ patB (bl (vFD s long).1) = true ∧ drw (bl (vFD s long).1) = true ∧ (((vFD s long).1.size : Nat) : Int) = long ∧ ((vFD s long).1.extract 0 1) = s) ∨ ((vFD s long).2 = false ∧ ((vCD s long).2 = false ∨ (vCD s long).1 = 0))) := by
  unfold vCD vFD
  by_cases h : (s.size = 1 ∧ patB (bl s) = true) ∧ (1 ≤ long ∧ long ≤ 9)
  · rw [if_pos h, if_pos h]
    refine ⟨by simp [h.1.1, h.1.2, h.2.1, h.2.2], ?_⟩
    obtain ⟨x, hx, hxp⟩ := one_pt h.1
    rcases fst1_spec (long - 1).toNat s h.1.2 (by rw [hx]; rfl) with ⟨r, f1, f2, f3, f4, f5, f6⟩ | ⟨f1, f2⟩
    · left
      rw [f1]
      refine ⟨rfl, by show (0 : Int) < ((cnt _ _ : Nat) : Int); omega, rfl, f3, f4, ?_, ?_⟩
      · show ((r.size : Nat) : Int) = long
        rw [bl_len, f5, hx, List.length_singleton]
        have := h.2.1
        omega
      · show r.extract 0 1 = s
        apply bl_inj
        rw [bl_extract, List.drop_zero, Nat.sub_zero]
        rw [hx] at f6
        rw [hx]
        exact f6
    · right
      rw [f1, f2]
      exact ⟨rfl, .inr rfl⟩
  · rw [if_neg h, if_neg h]
    refine ⟨?_, .inr ⟨rfl, .inl rfl⟩⟩
    show false = _
    rw [eq_comm, ← Bool.not_eq_true]
    intro hh
    simp only [Bool.and_eq_true, decide_eq_true_eq] at hh
    exact h ⟨⟨hh.1.1.1, hh.1.1.2⟩, hh.1.2, hh.2⟩
theorem j6_ev (s : ByteArray) (hs : s.size ≤ 100) (long : Int) (hlong : long ≤ 10) (x29 : Int) (x30 : Bool) (e1 : (x29, x30) = vCD s long) (x33 : ByteArray) (x34 : Bool) (e2 : (x33, x34) = vFD s long) : Ev (fun k => laws_FnPatternsDrawn.j6 k s long x29 x30 x33 x34 n x38 x39 a b x44 x45 p wh by_ x51 x52 false) true := by
  have last := j7_ev p wh by_ hp x51 x52 e5 a b ha hb x44 x45 e4 n x38 x39 e3 s long x29 x30 e1
  obtain ⟨_, hf⟩ := first_facts s long
  rw [← e1, ← e2] at hf
  apply Ev.succ; simp only [laws_FnPatternsDrawn.j6]
  refine Ev.neg (by decide) ?_
  rcases hf with ⟨f1, f2, f3, f4, f5, f6, f7⟩ | ⟨f1, _⟩
  · simp only at f1 f4 f5 f6 f7
    subst f1
    obtain ⟨r, _, d1, d2⟩ := drawn_both x33 (by omega)
    have hv : vID x33 = (true, true) := by unfold vID; rw [if_pos f4, f5]
    rw [hv] at d2
    rw [d2] at d1
    have h1 : 1 ≤ (x33.size : Int) := by have := (patB_spec f4).1; rw [← bl_len] at this; omega
    refine Ev.pos (by trivial) (Ev.bind d1 (Ev.pos f6 (Ev.pos (by omega) (Ev.pos h1 (Ev.pos (by rw [f7]) (Ev.pos (by trivial) (Ev.pos (by trivial) last)))))))
  · simp only at f1
    subst f1
    exact Ev.neg (by decide) last
end
end Go.Proofs.YtfhbclfmnliopaaGreatDoor

namespace Go.Proofs.YtfhbclfmnliopaaGreatDoor
open Go.RowKit Go.Proofs.YtfhbclfmnliopaaGreatDoor.P Go.Proofs.YtfhbclfmnliopaaGreatDoorW.PrintWords
set_option linter.unusedSimpArgs false
set_option linter.unusedVariables false
/-! What is drawn: some texts and numbers, all of them small. -/
theorem wraps_63 (n : Int) (h0 : 0 ≤ n) (h1 : n < 2 ^ 63) : IntKind.u64.wrap n = n := by rw [IntKind.wrap_u64]; omega
theorem low_bits (z : Int) : 0 ≤ Go.bits .and .u64 (IntKind.u64.wrap z / 1099511627776) 255 ∧ Go.bits .and .u64 (IntKind.u64.wrap z / 1099511627776) 255 ≤ 255 := by
  have hz : 0 ≤ IntKind.u64.wrap z ∧ IntKind.u64.wrap z < 18446744073709551616 := by rw [IntKind.wrap_u64]; omega
  generalize IntKind.u64.wrap z = y at hz
  have h := bits_mask .u64 63 (by decide) wraps_63 8 (by decide) (y / 1099511627776) (by omega) (by omega)
  have e : ((2 : Int) ^ 8 - 1) = 255 := by decide
  have e2 : ((2 : Int) ^ 8) = 256 := by decide
  rw [e, e2] at h
  rw [h]
  omega
section
variable (l : List Int) (hl : ∀ x ∈ l, 0 ≤ x ∧ x ≤ 255)
include hl
theorem nx_ok (p s : Int) (B : Nat) (h0 : 0 ≤ p) (h1 : p ≤ B) (hB : B ≤ 1000000000) : ∃ b p' s', spec_l1Cur_next.f l p s = some (b, p', s') ∧ (0 ≤ b ∧ b ≤ 255) ∧ 0 ≤ p' ∧ p' ≤ (B + 1 : Nat) := by
  unfold spec_l1Cur_next.f
  have ew : wrap64 (p + 1) = p + 1 := wrap_id (by omega) (by omega)
  rw [ew]
  have hb : ∀ z : Int, 0 ≤ wrap64 (Go.bits .and .u64 (IntKind.u64.wrap z / 1099511627776) 255) ∧ wrap64 (Go.bits .and .u64 (IntKind.u64.wrap z / 1099511627776) 255) ≤ 255 := fun z => by
    have := low_bits z
    rw [wrap_id (by omega) (by omega)]
    exact this
  by_cases c1 : p < (l.length : Int)
  · rw [if_pos c1, if_pos h0]
    have hr : 0 ≤ wrap64 (rd l p) ∧ wrap64 (rd l p) ≤ 255 := by
      obtain ⟨i, rfl⟩ := Int.eq_ofNat_of_zero_le h0
      have hi : i < l.length := by omega
      rw [rd_nat l i hi]
      have := hl _ (List.getElem_mem hi)
      rw [wrap_id (by omega) (by omega)]
      exact this
    by_cases c2 : p + 1 ≤ (l.length : Int)
    · rw [if_pos c2]
      exact ⟨_, _, _, rfl, hr, by omega, by omega⟩
    · rw [if_neg c2]
      exact ⟨_, _, _, rfl, hb _, by omega, by omega⟩
  · rw [if_neg c1]
    by_cases c2 : p + 1 ≤ (l.length : Int)
    · rw [if_pos c2]
      exact ⟨_, _, _, rfl, by omega, by omega, by omega⟩
    · rw [if_neg c2]
      exact ⟨_, _, _, rfl, hb _, by omega, by omega⟩
theorem pick_ok (p s : Int) (B : Nat) (h0 : 0 ≤ p) (h1 : p ≤ B) (hB : B ≤ 1000000000) (n : Int) (hn : 1 ≤ n) (hn2 : n ≤ 200) : ∃ r p' s', spec_l1Cur_pick.f l p s n = some (r, p', s') ∧ (0 ≤ r ∧ r < n) ∧ 0 ≤ p' ∧ p' ≤ (B + 1 : Nat) := by
  unfold spec_l1Cur_pick.f
  by_cases c : n ≤ 1
  · rw [if_pos c]
    exact ⟨_, _, _, rfl, by omega, h0, by omega⟩
  · obtain ⟨b, p', s', e, hb, hp⟩ := nx_ok l hl p s B h0 h1 hB
    rw [if_neg c, e]
    simp only [Option.bind_some]
    rw [if_neg (by omega), if_neg (by omega)]
    refine ⟨_, _, _, rfl, ?_, hp⟩
    rw [Int.tmod_eq_emod_of_nonneg hb.1]
    exact ⟨Int.emod_nonneg _ (by omega), Int.emod_lt_of_pos _ (by omega)⟩
theorem one_ok' (p s : Int) (B : Nat) (h0 : 0 ≤ p) (h1 : p ≤ B) (hB : B ≤ 1000000000) (n : Int) (hn : 1 ≤ n) (hn2 : n ≤ 200) : ∃ r p' s', spec_l1Cur_one.f l p s n = some (r, p', s') ∧ 0 ≤ p' ∧ p' ≤ (B + 1 : Nat) := by
  unfold spec_l1Cur_one.f
  obtain ⟨b, p', s', e, hb, hp⟩ := pick_ok l hl p s B h0 h1 hB n hn hn2
  rw [e]
  exact ⟨_, _, _, rfl, hp⟩
theorem of_ok (p s : Int) (B : Nat) (h0 : 0 ≤ p) (h1 : p ≤ B) (hB : B ≤ 1000000000) (ls : List ByteArray) (hn : 1 ≤ ls.length) (hn2 : ls.length ≤ 200) : ∃ r p' s', spec_l1Cur_of.f l p s ls = some (r, p', s') ∧ r ∈ ls ∧ 0 ≤ p' ∧ p' ≤ (B + 1 : Nat) := by
  unfold spec_l1Cur_of.f
  obtain ⟨b, p', s', e, hb, hp⟩ := pick_ok l hl p s B h0 h1 hB (ls.length : Int) (by omega) (by omega)
  rw [e]
  simp only [Option.bind_some]
  rw [if_pos hb.1, if_pos hb.2]
  refine ⟨_, _, _, rfl, ?_, hp⟩
  obtain ⟨i, rfl⟩ := Int.eq_ofNat_of_zero_le hb.1
  have hi : i < ls.length := by omega
  have : rdOf ByteArray.empty ls (i : Int) = ls[i] := by unfold rdOf; simp [List.getD, hi]
  rw [this]
  exact List.getElem_mem hi
theorem among_ok (p s : Int) (B : Nat) (h0 : 0 ≤ p) (h1 : p ≤ B) (hB : B ≤ 1000000000) (ls : List Int) (hn : 1 ≤ ls.length) (hn2 : ls.length ≤ 200) : ∃ r p' s', spec_l1Cur_among.f l p s ls = some (r, p', s') ∧ r ∈ ls ∧ 0 ≤ p' ∧ p' ≤ (B + 1 : Nat) := by
  unfold spec_l1Cur_among.f
  obtain ⟨b, p', s', e, hb, hp⟩ := pick_ok l hl p s B h0 h1 hB (ls.length : Int) (by omega) (by omega)
  rw [e]
  simp only [Option.bind_some]
  rw [if_pos hb.1, if_pos hb.2]
  refine ⟨_, _, _, rfl, ?_, hp⟩
  obtain ⟨i, rfl⟩ := Int.eq_ofNat_of_zero_le hb.1
  have hi : i < ls.length := by omega
  rw [rd_nat ls i hi]
  exact List.getElem_mem hi
theorem pin_ok : ∀ (n : Nat) (x : ByteArray) (p s : Int) (B : Nat), 0 ≤ p → p ≤ B → B + n ≤ 1000 → x.size + n ≤ 100 → ∃ t p' s', Ev (fun k => spec_l1Cur_pin.l0 k (n : Int) x l p s) (t, p', s') ∧ t.size ≤ 100 ∧ 0 ≤ p' ∧ p' ≤ (B + n + 2 : Nat)
  | 0, x, p, s, B, h0, h1, hB, hx => by
    obtain ⟨b, p1, s1, e1, q1, q2⟩ := one_ok' l hl p s B h0 h1 (by omega) 16 (by omega) (by omega)
    cases b with
    | false =>
      refine ⟨x, p1, s1, ?_, by omega, q1, by omega⟩
      apply Ev.succ; simp only [spec_l1Cur_pin.l0]
      exact Ev.neg (by omega) (Ev.bindc e1 (Ev.neg (by simp) (Ev.now _)))
    | true =>
      obtain ⟨t, p2, s2, e2, hm, q3, q4⟩ := of_ok l hl p1 s1 (B + 1) q1 q2 (by omega) [(⟨#[]⟩ : ByteArray), (⟨#[49]⟩ : ByteArray), (⟨#[49, 50, 120]⟩ : ByteArray), (⟨#[49, 50, 51, 52, 53]⟩ : ByteArray), (⟨#[48, 48, 48, 48]⟩ : ByteArray)] (by decide) (by decide)
      refine ⟨t, p2, s2, ?_, ?_, q3, by omega⟩
      · apply Ev.succ; simp only [spec_l1Cur_pin.l0]
        exact Ev.neg (by omega) (Ev.bindc e1 (Ev.pos rfl (Ev.bindc e2 (Ev.now _))))
      · have hz : ∀ y ∈ [(⟨#[]⟩ : ByteArray), (⟨#[49]⟩ : ByteArray), (⟨#[49, 50, 120]⟩ : ByteArray), (⟨#[49, 50, 51, 52, 53]⟩ : ByteArray), (⟨#[48, 48, 48, 48]⟩ : ByteArray)], y.size ≤ 100 := by
          intro y hy
          simp only [List.mem_cons, List.not_mem_nil, or_false] at hy
          rcases hy with rfl | rfl | rfl | rfl | rfl <;> decide
        exact hz t hm
  | n + 1, x, p, s, B, h0, h1, hB, hx => by
    obtain ⟨v, p1, s1, e1, hm, q1, q2⟩ := among_ok l hl p s B h0 h1 (by omega) [0, 1, 1, 2, 3, 9] (by decide) (by decide)
    obtain ⟨m, rfl, hm9⟩ : ∃ m : Nat, v = m ∧ m < 10 := by
      simp only [List.mem_cons, List.not_mem_nil, or_false] at hm
      exact ⟨v.toNat, by omega, by omega⟩
    have hs1 : (strOfNums [48 + (m : Int)]).size = 1 := rfl
    obtain ⟨t, p2, s2, e2, ht, q3, q4⟩ := pin_ok n (x ++ strOfNums [48 + (m : Int)]) p1 s1 (B + 1) q1 q2 (by omega) (by rw [ByteArray.size_append, hs1]; omega)
    refine ⟨t, p2, s2, ?_, ht, q3, by omega⟩
    apply Ev.succ; simp only [spec_l1Cur_pin.l0]
    refine Ev.pos (by omega) (Ev.bindc e1 (Ev.bind (TurnWheel.l1Num_dig m hm9) (Ev.pos (by rw [hs1]; omega) ?_)))
    rw [show wrap64 (((n + 1 : Nat) : Int) - 1) = (n : Int) by rw [wrap_id (by omega) (by omega)]; omega]
    exact e2
omit hl in
theorem enc_size : ∀ i : Fin 9, (Utf8.encode (49 + (i.val : Int))).size = 1 := by decide +kernel
omit hl in
theorem enc_size' (r : Int) (h0 : 0 ≤ r) (h1 : r < 9) : (wrap64 (49 + r)) % 256 = 49 + r ∧ (Utf8.encode (49 + r)).size = 1 := by
  refine ⟨by rw [wrap_id (by omega) (by omega)]; omega, ?_⟩
  have := enc_size ⟨r.toNat, by omega⟩
  simp only at this
  rwa [show 49 + (r.toNat : Int) = 49 + r by omega] at this
theorem drawn_l0 : ∀ (n : Nat) (x : ByteArray) (p s : Int) (B : Nat), 0 ≤ p → p ≤ B → B + 2 * n ≤ 1000 → 0 < x.size → x.size + n ≤ 100 → ∃ t p' s', Ev (fun k => spec_l1Cur_drawn.l0 k x (n : Int) l p s) (t, p', s') ∧ t.size ≤ 100
  | 0, x, p, s, B, h0, h1, hB, hp, hx => by
    obtain ⟨b, p1, s1, e1, q1, q2⟩ := one_ok' l hl p s B h0 h1 (by omega) 14 (by omega) (by omega)
    cases b with
    | false =>
      refine ⟨x, p1, s1, ?_, by omega⟩
      apply Ev.succ; simp only [spec_l1Cur_drawn.l0]
      exact Ev.neg (by omega) (Ev.bindc e1 (Ev.neg (by simp) (Ev.now _)))
    | true =>
      obtain ⟨t, p2, s2, e2, hm, q3, q4⟩ := of_ok l hl p1 s1 (B + 1) q1 q2 (by omega) [(⟨#[]⟩ : ByteArray), (⟨#[48]⟩ : ByteArray), (⟨#[49, 49]⟩ : ByteArray), (⟨#[49, 51]⟩ : ByteArray), (⟨#[49, 50, 51, 52, 53, 54, 55, 56, 57, 48]⟩ : ByteArray), (⟨#[120]⟩ : ByteArray)] (by decide) (by decide)
      refine ⟨t, p2, s2, ?_, ?_⟩
      · apply Ev.succ; simp only [spec_l1Cur_drawn.l0]
        exact Ev.neg (by omega) (Ev.bindc e1 (Ev.pos rfl (Ev.bindc e2 (Ev.now _))))
      · have hz : ∀ y ∈ [(⟨#[]⟩ : ByteArray), (⟨#[48]⟩ : ByteArray), (⟨#[49, 49]⟩ : ByteArray), (⟨#[49, 51]⟩ : ByteArray), (⟨#[49, 50, 51, 52, 53, 54, 55, 56, 57, 48]⟩ : ByteArray), (⟨#[120]⟩ : ByteArray)], y.size ≤ 100 := by
          intro y hy
          simp only [List.mem_cons, List.not_mem_nil, or_false] at hy
          rcases hy with rfl | rfl | rfl | rfl | rfl | rfl <;> decide
        exact hz t hm
  | n + 1, x, p, s, B, h0, h1, hB, hp, hx => by
    obtain ⟨r, p1, s1, e1, hr, q1, q2⟩ := pick_ok l hl p s B h0 h1 (by omega) 9 (by omega) (by omega)
    obtain ⟨w1, w2⟩ := enc_size' r hr.1 hr.2
    have ew : wrap64 (((n + 1 : Nat) : Int) - 1) = (n : Int) := by rw [wrap_id (by omega) (by omega)]; omega
    have hh := piHas_ev x (by omega) (49 + r)
    have hg := piGoes_ev x _ (49 + r) (by omega) hp rfl
    have go : ∀ (p' s' : Int) (b : Nat), 0 ≤ p' → p' ≤ b → b ≤ B + 2 → ∃ t p2 s2, Ev (fun k => spec_l1Cur_drawn.l0 k x (n : Int) l p' s') (t, p2, s2) ∧ t.size ≤ 100 := fun p' s' b a1 a2 a3 => drawn_l0 n x p' s' (B + 2) a1 (by omega) (by omega) hp (by omega)
    have add : ∀ (p' s' : Int) (b : Nat), 0 ≤ p' → p' ≤ b → b ≤ B + 2 → ∃ t p2 s2, Ev (fun k => spec_l1Cur_drawn.l0 k (x ++ Utf8.encode (49 + r)) (n : Int) l p' s') (t, p2, s2) ∧ t.size ≤ 100 := fun p' s' b a1 a2 a3 => drawn_l0 n (x ++ Utf8.encode (49 + r)) p' s' (B + 2) a1 (by omega) (by omega) (by rw [ByteArray.size_append, w2]; omega) (by rw [ByteArray.size_append, w2]; omega)
    cases b1 : hasI (bl x) (49 + r) with
    | true =>
      obtain ⟨t, p2, s2, e2, ht⟩ := go p1 s1 (B + 1) q1 q2 (by omega)
      refine ⟨t, p2, s2, ?_, ht⟩
      apply Ev.succ; simp only [spec_l1Cur_drawn.l0]
      refine Ev.pos (by omega) (Ev.bindc e1 ?_)
      simp only [w1]
      refine Ev.bind hh ?_
      rw [b1, ew]
      exact Ev.pos rfl e2
    | false =>
      rw [b1] at hh
      cases b2 : (!hasI (bl x) (49 + r) && goB (bl x) (bt x ((x.size - 1 : Nat) : Int)) (49 + r)) with
      | true =>
        rw [b2] at hg
        obtain ⟨t, p2, s2, e2, ht⟩ := add p1 s1 (B + 1) q1 q2 (by omega)
        refine ⟨t, p2, s2, ?_, ht⟩
        apply Ev.succ; simp only [spec_l1Cur_drawn.l0]
        refine Ev.pos (by omega) (Ev.bindc e1 ?_)
        simp only [w1]
        refine Ev.bind hh (Ev.neg (by decide) (Ev.bind hg (Ev.pos rfl (Ev.pos (by rw [w2]; omega) ?_))))
        rw [ew]
        exact e2
      | false =>
        rw [b2] at hg
        obtain ⟨b, p3, s3, e3, q3, q4⟩ := one_ok' l hl p1 s1 (B + 1) q1 q2 (by omega) 6 (by omega) (by omega)
        cases b with
        | true =>
          obtain ⟨t, p2, s2, e2, ht⟩ := add p3 s3 (B + 2) q3 q4 (by omega)
          refine ⟨t, p2, s2, ?_, ht⟩
          apply Ev.succ; simp only [spec_l1Cur_drawn.l0]
          refine Ev.pos (by omega) (Ev.bindc e1 ?_)
          simp only [w1]
          refine Ev.bind hh (Ev.neg (by decide) (Ev.bind hg (Ev.neg (by decide) (Ev.bindc e3 (Ev.pos rfl (Ev.pos (by rw [w2]; omega) ?_))))))
          rw [ew]
          exact e2
        | false =>
          obtain ⟨t, p2, s2, e2, ht⟩ := go p3 s3 (B + 2) q3 q4 (by omega)
          refine ⟨t, p2, s2, ?_, ht⟩
          apply Ev.succ; simp only [spec_l1Cur_drawn.l0]
          refine Ev.pos (by omega) (Ev.bindc e1 ?_)
          simp only [w1]
          refine Ev.bind hh (Ev.neg (by decide) (Ev.bind hg (Ev.neg (by decide) (Ev.bindc e3 (Ev.neg (by simp) ?_)))))
          rw [ew]
          exact e2
theorem drawNext_ok : ∃ t, Ev (fun k => spec_DrawNextPoints.f k l) t ∧ t.size ≤ 100 := by
  obtain ⟨r, p1, s1, e1, hr, q1, q2⟩ := pick_ok l hl 0 0 0 (by omega) (by omega) (by omega) 9 (by omega) (by omega)
  obtain ⟨r2, p2, s2, e2, hr2, q3, q4⟩ := pick_ok l hl p1 s1 (0 + 1) q1 q2 (by omega) 9 (by omega) (by omega)
  obtain ⟨m, hm, hm9⟩ : ∃ m : Nat, wrap64 (1 + r) = m ∧ m < 10 := ⟨(1 + r).toNat, by rw [wrap_id (by omega) (by omega)]; omega, by omega⟩
  obtain ⟨n, rfl⟩ := Int.eq_ofNat_of_zero_le hr2.1
  obtain ⟨t, p3, s3, e3, ht⟩ := drawn_l0 l hl n (strOfNums [48 + (m : Int)]) p2 s2 (0 + 1 + 1) q3 q4 (by omega) (by show 0 < 1; omega) (by show 1 + n ≤ 100; omega)
  refine ⟨t, ?_, ht⟩
  unfold spec_DrawNextPoints.f spec_DrawIsDrawn.f spec_DrawIsDrawn.g spec_l1Cur_drawn.f
  refine Ev.bind (a := t) (Ev.bind (a := (t, p3, s3)) (Ev.bind (a := (t, p3, s3)) (Ev.bindc e1 ?_) (Ev.now _)) (Ev.now _)) (Ev.now _)
  simp only [hm]
  exact Ev.bind (TurnWheel.l1Num_dig m hm9) (Ev.bindc e2 e3)
theorem drawCount_ok : ∃ s long, spec_DrawCountDrawn.f l = some (s, long) ∧ s.size ≤ 100 ∧ -1 ≤ long ∧ long ≤ 10 := by
  obtain ⟨t, p1, s1, e1, hm, q1, q2⟩ := of_ok l hl 0 0 0 (by omega) (by omega) (by omega) [(⟨#[49]⟩ : ByteArray), (⟨#[50]⟩ : ByteArray), (⟨#[53]⟩ : ByteArray), (⟨#[57]⟩ : ByteArray), (⟨#[55]⟩ : ByteArray), (⟨#[48]⟩ : ByteArray), (⟨#[]⟩ : ByteArray), (⟨#[49, 50]⟩ : ByteArray)] (by decide) (by decide)
  obtain ⟨v, p2, s2, e2, hv, q3, q4⟩ := among_ok l hl p1 s1 (0 + 1) q1 q2 (by omega) [1, 2, 3, 4, 4, 5, 6, 9, 10, 0] (by decide) (by decide)
  refine ⟨t, v, ?_, ?_, ?_⟩
  · unfold spec_DrawCountDrawn.f spec_DrawCountDrawn.g
    rw [e1]
    simp only [Option.bind_some]
    rw [e2]
    rfl
  · simp only [List.mem_cons, List.not_mem_nil, or_false] at hm
    rcases hm with rfl | rfl | rfl | rfl | rfl | rfl | rfl | rfl <;> decide
  · simp only [List.mem_cons, List.not_mem_nil, or_false] at hv
    omega
theorem drawAll_ok : ∃ n, spec_DrawCountAllDrawn.f l = some n ∧ -1 ≤ n ∧ n ≤ 10 := by
  obtain ⟨v, p2, s2, e2, hv, q3, q4⟩ := among_ok l hl 0 0 0 (by omega) (by omega) (by omega) [1, 2, 3, 4, 4, 5, 6, 9, 10, 0, (-1)] (by decide) (by decide)
  refine ⟨v, ?_, ?_⟩
  · unfold spec_DrawCountAllDrawn.f spec_DrawCountAllDrawn.g
    rw [e2]
    rfl
  · simp only [List.mem_cons, List.not_mem_nil, or_false] at hv
    omega
theorem drawWheels_ok : ∃ a b, Ev (fun k => spec_DrawWheelTurns.f k l) (a, b) ∧ a.size ≤ 100 ∧ b.size ≤ 100 := by
  obtain ⟨r, p1, s1, e1, hr, q1, q2⟩ := pick_ok l hl 0 0 0 (by omega) (by omega) (by omega) 3 (by omega) (by omega)
  obtain ⟨m, hm, hm9⟩ : ∃ m : Nat, wrap64 (2 + r) = m ∧ m < 10 := ⟨(2 + r).toNat, by rw [wrap_id (by omega) (by omega)]; omega, by omega⟩
  obtain ⟨a, p2, s2, e2, ha, q3, q4⟩ := pin_ok l hl m ⟨#[]⟩ p1 s1 (0 + 1) q1 q2 (by omega) (by show 0 + m ≤ 100; omega)
  obtain ⟨b, p3, s3, e3, hb, q5, q6⟩ := pin_ok l hl m ⟨#[]⟩ p2 s2 (0 + 1 + m + 2) q3 q4 (by omega) (by show 0 + m ≤ 100; omega)
  refine ⟨a, b, ?_, ha, hb⟩
  unfold spec_DrawWheelTurns.f spec_DrawHitsOf.f spec_DrawHitsOf.g spec_l1Cur_pin.f
  refine Ev.bind (a := (a, b)) (Ev.bind (a := (a, b, p3, s3)) (Ev.bindc e1 ?_) (Ev.now _)) (Ev.now _)
  simp only [hm]
  exact Ev.bind e2 (Ev.bind e3 (Ev.now _))
theorem drawTurn_ok : ∃ a wh by_, Ev (fun k => spec_DrawTurnWheel.f k l) (a, wh, by_) ∧ a.size ≤ 100 := by
  obtain ⟨r, p1, s1, e1, hr, q1, q2⟩ := pick_ok l hl 0 0 0 (by omega) (by omega) (by omega) 3 (by omega) (by omega)
  obtain ⟨m, hm, hm9⟩ : ∃ m : Nat, wrap64 (2 + r) = m ∧ m < 10 := ⟨(2 + r).toNat, by rw [wrap_id (by omega) (by omega)]; omega, by omega⟩
  obtain ⟨a, p2, s2, e2, ha, q3, q4⟩ := pin_ok l hl m ⟨#[]⟩ p1 s1 (0 + 1) q1 q2 (by omega) (by show 0 + m ≤ 100; omega)
  obtain ⟨r3, p3, s3, e3, hr3, q5, q6⟩ := pick_ok l hl p2 s2 (0 + 1 + m + 2) q3 q4 (by omega) (wrap64 ((a.size : Int) + 1)) (by rw [wrap_id (by omega) (by omega)]; omega) (by rw [wrap_id (by omega) (by omega)]; omega)
  obtain ⟨r4, p4, s4, e4, hr4, q7, q8⟩ := pick_ok l hl p3 s3 (0 + 1 + m + 2 + 1) q5 q6 (by omega) 9 (by omega) (by omega)
  obtain ⟨v, p5, s5, e5, hv, q9, q10⟩ := among_ok l hl p4 s4 (0 + 1 + m + 2 + 1 + 1) q7 q8 (by omega) [0, 1, 2, 9, 10, (-1), (-7), (-13), 1000, (-1000), 1001, (-1001)] (by decide) (by decide)
  refine ⟨a, wrap64 (r3 - wrap64 (Int.tdiv r4 8)), v, ?_, ha⟩
  unfold spec_DrawTurnWheel.f spec_DrawTurnWheel.g spec_l1Cur_pin.f
  refine Ev.bind (a := (a, wrap64 (r3 - wrap64 (Int.tdiv r4 8)), v, p5, s5)) (Ev.bindc e1 ?_) (Ev.now _)
  simp only [hm]
  exact Ev.bind e2 (Ev.bindc e3 (Ev.bindc e4 (Ev.bindc e5 (Ev.now _))))
end
end Go.Proofs.YtfhbclfmnliopaaGreatDoor

/- FnPatternsDrawn: patterns are drawn point by point, counts are those of next points, mirrored patterns are drawn alike, and wheels turn by the nearer side: over the functions that the walk computes. -/
namespace Go.Proofs.YtfhbclfmnliopaaGreatDoor
open Go.RowKit Go.Proofs.YtfhbclfmnliopaaGreatDoor.P Go.Proofs.YtfhbclfmnliopaaGreatDoorW.PrintWords
open TurnWheel (vTW)
open WheelTurns (vWT)
open MirrorDrawn (vMD)
set_option linter.unusedSimpArgs false
set_option linter.unusedVariables false
section
variable (l1 : List Int) (hl1 : ∀ x ∈ l1, 0 ≤ x ∧ x ≤ 255)
include hl1
theorem j5_ev : Ev (fun k => laws_FnPatternsDrawn.j5 k l1) true := by
  obtain ⟨s, long, dc, hs, hg1, hg2⟩ := drawCount_ok l1 hl1
  obtain ⟨n, da, hn1, hn2⟩ := drawAll_ok l1 hl1
  obtain ⟨a, b, dw, ha, hb⟩ := drawWheels_ok l1 hl1
  obtain ⟨p, wh, by_, dt, hp⟩ := drawTurn_ok l1 hl1
  obtain ⟨r1, c1, c2, rfl⟩ := CountDrawn.both s (by omega) long
  obtain ⟨r2, f1, f2, rfl⟩ := FirstDrawn.both s (by omega) long
  obtain ⟨r3, a1, a2, rfl⟩ := CountAllDrawn.both n
  obtain ⟨r4, w1, w2, rfl⟩ := WheelTurns.both a b (by omega) (by omega)
  obtain ⟨r5, t1, t2, rfl⟩ := TurnWheel.both p wh by_ (by omega)
  have last := j6_ev p wh by_ hp (vTW p wh by_).1 (vTW p wh by_).2 rfl a b ha hb (vWT a b).1 (vWT a b).2 rfl n (vCA n).1 (vCA n).2 rfl s hs long hg2 (vCD s long).1 (vCD s long).2 rfl (vFD s long).1 (vFD s long).2 rfl
  obtain ⟨_, hf⟩ := first_facts s long
  apply Ev.succ; simp only [laws_FnPatternsDrawn.j5]
  refine Ev.bindc dc (Ev.bind c2 (Ev.bind c1 (Ev.bind f2 (Ev.bind f1 (Ev.bindc da (Ev.bind a2 (Ev.bind a1 (Ev.bind dw (Ev.bind w2 (Ev.bind w1 (Ev.bind dt (Ev.bindc t2 (Ev.bind t1 ?_)))))))))))))
  refine Ev.neg (by simp) (Ev.pos rfl (Ev.neg (by simp) (Ev.pos rfl (Ev.neg (by simp) (Ev.pos rfl (Ev.neg (by simp) (Ev.pos rfl (Ev.neg (by simp) (Ev.pos rfl ?_)))))))))
  cases h2 : (vCD s long).2 with
  | true =>
    have hb : ((vFD s long).2 != decide ((vCD s long).1 > 0)) = false := by
      rcases hf with ⟨q1, q2, _⟩ | ⟨q1, q2⟩
      · rw [q1, decide_eq_true q2]; rfl
      · rw [q1]
        rcases q2 with q2 | q2
        · rw [h2] at q2; cases q2
        · rw [q2]; rfl
    rw [hb]
    rw [h2] at last
    exact Ev.pos rfl last
  | false =>
    have hb : ((vFD s long).2 != false) = false := by
      rcases hf with ⟨_, _, q3, _⟩ | ⟨q1, _⟩
      · rw [h2] at q3; cases q3
      · rw [q1]; rfl
    rw [hb]
    rw [h2] at last
    exact Ev.neg (by decide) last
variable (s : ByteArray) (hs : s.size ≤ 100) (hp : patB (bl s) = true) (hd : drw (bl s) = true)
include hs hp hd
theorem j4_ev : Ev (fun k => laws_FnPatternsDrawn.j4 k l1 s false) true := by
  have last := j5_ev l1 hl1
  have hsz : s.size = (bl s).length := rfl
  apply Ev.succ; simp only [laws_FnPatternsDrawn.j4]
  refine Ev.neg (by decide) ?_
  by_cases c : (s.size : Int) > 1
  · obtain ⟨q1, q2⟩ := less_ok hp hd (by omega)
    have e : wrap64 ((s.size : Int) - 1) = ((s.size - 1 : Nat) : Int) := by rw [wrap_id (by omega) (by omega)]; omega
    have hb : bl (s.extract 0 (s.size - 1)) = (bl s).take ((bl s).length - 1) := by rw [bl_extract, List.drop_zero, Nat.sub_zero]; rfl
    obtain ⟨r, _, d1, d2⟩ := drawn_both (s.extract 0 (s.size - 1)) (by rw [ByteArray.size_extract]; omega)
    have hv : vID (s.extract 0 (s.size - 1)) = (true, true) := by unfold vID; rw [hb, if_pos q1, q2]
    rw [d2, hv] at d1
    rw [e]
    exact Ev.pos c (Ev.pos (by omega) (Ev.pos (by omega) (Ev.bind d1 (Ev.pos (by trivial) (Ev.pos (by trivial) last)))))
  · exact Ev.neg c last
omit hl1 hs hp hd in
theorem next_at (l : List UInt8) (i : Nat) (h : i < (nxt l).length) : bt (strOfNums (nxt l)) (i : Int) = (nxt l)[i] := by
  have hb : bl (strOfNums (nxt l)) = (nxt l).map toB := bl_nums _
  rw [bt_nat _ i (by rw [hb, List.length_map]; exact h)]
  have : (bl (strOfNums (nxt l)))[i]'(by rw [hb, List.length_map]; exact h) = toB (nxt l)[i] := by simp only [hb, List.getElem_map]
  rw [this, toB_nat (nxt_isP l _ (List.getElem_mem h))]
omit hl1 in
theorem j3_ev (i : Nat) (hi : i < (nxt (bl s)).length) (ih : Ev (fun k => laws_FnPatternsDrawn.l0 k l1 s (strOfNums (nxt (bl s))) (strOfNums (nxt (bl s))) ((i + 1 : Nat) : Int)) true) :
    Ev (fun k => laws_FnPatternsDrawn.j3 k l1 s (strOfNums (nxt (bl s))) (i : Int) (strOfNums (nxt (bl s))) ((i + 1 : Nat) : Int) false) true := by
  have hfew := nxt_few hp
  have hz : (strOfNums (nxt (bl s))).size = (nxt (bl s)).length := strOfNums_size _
  have e : wrap64 ((i : Int) + 1) = ((i + 1 : Nat) : Int) := by rw [wrap_id (by omega) (by omega)]; omega
  have hcut : bl ((strOfNums (nxt (bl s))).extract i (i + 1)) = [toB (nxt (bl s))[i]] := by
    have hb : bl (strOfNums (nxt (bl s))) = (nxt (bl s)).map toB := bl_nums _
    rw [bl_extract, hb, List.drop_eq_getElem_cons (by rw [List.length_map]; exact hi), show i + 1 - i = 1 by omega, List.getElem_map]
    rfl
  have hcz : ((strOfNums (nxt (bl s))).extract i (i + 1)).size = 1 := by rw [bl_len, hcut]; rfl
  obtain ⟨q1, q2⟩ := snoc_ok hp hd (List.getElem_mem hi)
  have hbl : bl (s ++ (strOfNums (nxt (bl s))).extract i (i + 1)) = bl s ++ [toB (nxt (bl s))[i]] := by rw [bl_append, hcut]
  have hsz2 : (s ++ (strOfNums (nxt (bl s))).extract i (i + 1)).size ≤ 101 := by rw [ByteArray.size_append, hcz]; omega
  obtain ⟨r, _, d1, d2⟩ := drawn_both (s ++ (strOfNums (nxt (bl s))).extract i (i + 1)) (by omega)
  have hv : vID (s ++ (strOfNums (nxt (bl s))).extract i (i + 1)) = (true, true) := by unfold vID; rw [hbl, if_pos q1, q2]
  rw [d2, hv] at d1
  apply Ev.succ; simp only [laws_FnPatternsDrawn.j3, e, Int.toNat_natCast]
  refine Ev.neg (by decide) (Ev.pos (by omega) (Ev.pos (by omega) (Ev.pos (by omega) (Ev.pos (by rw [hcz]; omega) (Ev.bind d1 (Ev.pos (by trivial) (Ev.pos (by trivial) ih)))))))
theorem l0_ev : ∀ d i : Nat, i + d = (nxt (bl s)).length → Ev (fun k => laws_FnPatternsDrawn.l0 k l1 s (strOfNums (nxt (bl s))) (strOfNums (nxt (bl s))) (i : Int)) true
  | 0, i, hi => by
    have last := j4_ev l1 hl1 s hs hp hd
    have hfew := nxt_few hp
    have hz : (strOfNums (nxt (bl s))).size = (nxt (bl s)).length := strOfNums_size _
    have hsz : s.size = (bl s).length := rfl
    have e : wrap64 (9 - (s.size : Int)) = 9 - (s.size : Int) := wrap_id (by omega) (by omega)
    have hno : decide (((strOfNums (nxt (bl s))).size : Int) > 9 - (s.size : Int)) = false := decide_eq_false (by omega)
    apply Ev.succ; simp only [laws_FnPatternsDrawn.l0, e, hno]
    refine Ev.neg (by omega) ?_
    by_cases c : (s.size : Int) < 9
    · have := nxt_some hp (by omega)
      exact Ev.pos c (Ev.neg (by omega) last)
    · exact Ev.neg c last
  | d + 1, i, hi => by
    have hlt : i < (nxt (bl s)).length := by omega
    have ih := j3_ev l1 s hs hp hd i hlt (l0_ev d (i + 1) (by omega))
    have hfew := nxt_few hp
    have hz : (strOfNums (nxt (bl s))).size = (nxt (bl s)).length := strOfNums_size _
    have e : wrap64 ((i : Int) + 1) = ((i + 1 : Nat) : Int) := by rw [wrap_id (by omega) (by omega)]; omega
    have hi128 : bt (strOfNums (nxt (bl s))) (i : Int) < 128 := by
      rw [next_at _ i hlt]
      have := nxt_isP (bl s) _ (List.getElem_mem hlt)
      have := this.2
      omega
    apply Ev.succ; simp only [laws_FnPatternsDrawn.l0, e]
    refine Ev.pos (by omega) (Ev.pos ⟨hi128, by omega⟩ ?_)
    by_cases c : (i : Int) > 0
    · have e2 : wrap64 ((i : Int) - 1) = ((i - 1 : Nat) : Int) := by rw [wrap_id (by omega) (by omega)]; omega
      have hasc : decide (bt (strOfNums (nxt (bl s))) ((i - 1 : Nat) : Int) ≥ bt (strOfNums (nxt (bl s))) (i : Int)) = false := by
        rw [next_at _ i hlt, next_at _ (i - 1) (by omega)]
        have := List.pairwise_iff_getElem.1 (nxt_asc (bl s)) (i - 1) i (by omega) hlt (by omega)
        exact decide_eq_false (by omega)
      simp only [e2, hasc]
      exact Ev.pos c (Ev.pos (by omega) (Ev.pos (by omega) (Ev.pos (by omega) (Ev.pos (by omega) ih))))
    · exact Ev.neg c ih
end
theorem pure_FnPatternsDrawn : PureFnPatternsDrawn := by
  intro l0 l1 h0 h1
  have w0 : ∀ x ∈ l0, 0 ≤ x ∧ x ≤ 255 := fun x hx => by
    have h := h0.2 x hx
    have e1 : IntKind.u8.min = 0 := rfl
    have e2 : IntKind.u8.max = 255 := rfl
    simp only [Lit.wf, e1, e2, Bool.and_eq_true, decide_eq_true_eq] at h
    exact h
  have w1 : ∀ x ∈ l1, 0 ≤ x ∧ x ≤ 255 := fun x hx => by
    have h := h1.2 x hx
    have e1 : IntKind.u8.min = 0 := rfl
    have e2 : IntKind.u8.max = 255 := rfl
    simp only [Lit.wf, e1, e2, Bool.and_eq_true, decide_eq_true_eq] at h
    exact h
  suffices h : Ev (fun k => laws_FnPatternsDrawn.f k l0 l1) true by obtain ⟨k, hk⟩ := h; exact ⟨k, hk k (Nat.le_refl _)⟩
  unfold laws_FnPatternsDrawn.f
  obtain ⟨B, hB⟩ : ∃ B, laws_big.f l0 l1 = some B := by
    unfold laws_big.f
    by_cases c : (l0.length : Int) > 1048576
    · exact ⟨_, if_pos c⟩
    · exact ⟨_, if_neg c⟩
  refine Ev.bindc hB ?_
  cases B with
  | true => exact Ev.pos rfl (Ev.now _)
  | false =>
    obtain ⟨s, dn, hs⟩ := drawNext_ok l0 w0
    obtain ⟨r1, n1, n2, rfl⟩ := NextPoints.both s (by omega)
    obtain ⟨r2, d1, d2, rfl⟩ := drawn_both s (by omega)
    obtain ⟨r3, m1, m2, rfl⟩ := MirrorDrawn.both s (by omega)
    have tail : (vND s).2 = ((vID s).2 && (vID s).1) ∧ (vMD s).2 = (vID s).2 ∧ Ev (fun k => laws_FnPatternsDrawn.j0 k l1 s (vND s).1 (vND s).2 (vID s).1 (vID s).2 (vMD s).1 false) true := by
      have j5 := j5_ev l1 w1
      cases hp : patB (bl s) with
      | false =>
        have e1 : vND s = (e0, false) := by unfold vND; rw [if_neg (by rw [hp]; simp)]
        have e2 : vID s = (false, false) := by unfold vID; rw [if_neg (by rw [hp]; simp)]
        have e3 : vMD s = (e0, false) := by unfold vMD; rw [if_neg (by rw [hp]; simp)]
        rw [e1, e2, e3]
        refine ⟨rfl, rfl, ?_⟩
        apply Ev.succ; simp only [laws_FnPatternsDrawn.j0]
        refine Ev.neg (by decide) (Ev.neg (by decide) (Ev.succ ?_))
        simp only [laws_FnPatternsDrawn.j1]
        exact Ev.neg (by decide) j5
      | true =>
        have e2 : vID s = (drw (bl s), true) := by unfold vID; rw [if_pos hp]
        obtain ⟨M, hM⟩ : ∃ M, M = strOfNums ((MirrorDrawn.mirs (bl s)).map (48 + ·)) := ⟨_, rfl⟩
        have e3 : vMD s = (M, true) := by unfold vMD; rw [if_pos hp, hM]
        have hall := pat_allP hp
        have bM : bl M = (bl s).map mB := by rw [hM]; exact bl_mirS hall
        have pM : patB (bl M) = true := by rw [bM]; exact pat_mir hp
        have zM : M.size ≤ 100 := by rw [bl_len, bM, List.length_map, ← bl_len]; exact hs
        obtain ⟨q1, _, mm, q3⟩ := MirrorDrawn.both M (by omega)
        have e4 : vMD M = (s, true) := by
          unfold vMD
          rw [if_pos pM]
          congr 1
          apply bl_inj
          rw [bl_mirS (pat_allP pM), bM, mir_mir hall]
        rw [q3, e4] at mm
        obtain ⟨q4, _, md, q5⟩ := drawn_both M (by omega)
        have e5 : vID M = (drw (bl s), true) := by
          unfold vID
          rw [if_pos pM, bM, drw_mir hp]
        rw [q5, e5] at md
        have j1 : Ev (fun k => laws_FnPatternsDrawn.j1 k l1 s (vND s).1 (vND s).2) true := by
          apply Ev.succ; simp only [laws_FnPatternsDrawn.j1]
          cases hd : drw (bl s) with
          | false =>
            have e1 : vND s = (e0, false) := by unfold vND; rw [if_neg (by rw [hd]; simp)]
            rw [e1]
            exact Ev.neg (by decide) j5
          | true =>
            have e1 : vND s = (strOfNums (nxt (bl s)), true) := by unfold vND; rw [if_pos ⟨hp, hd⟩]
            rw [e1]
            exact Ev.pos rfl (l0_ev l1 w1 s hs hp hd (nxt (bl s)).length 0 (by omega))
        have e1 : (vND s).2 = drw (bl s) := by
          unfold vND
          cases hd : drw (bl s) with
          | false => rw [if_neg (by simp)]
          | true => rw [if_pos ⟨hp, rfl⟩]
        refine ⟨by rw [e1, e2]; rfl, by rw [e2, e3], ?_⟩
        rw [e2, e3]
        apply Ev.succ; simp only [laws_FnPatternsDrawn.j0]
        refine Ev.neg (by decide) (Ev.pos (by trivial) (Ev.bind mm (Ev.bind md (Ev.pos (by trivial) (Ev.pos (by trivial) (Ev.pos (by trivial) (Ev.neg (by simp) j1)))))))
    obtain ⟨t1, t2, t3⟩ := tail
    refine Ev.neg (by decide) (Ev.bind dn (Ev.bind n2 (Ev.bind n1 (Ev.bind d2 (Ev.bind d1 (Ev.bind m2 (Ev.bind m1 ?_)))))))
    refine Ev.neg (by simp) (Ev.pos rfl (Ev.neg (by simp) (Ev.neg (by simp) (Ev.neg (by simp) (Ev.pos rfl (Ev.neg (by rw [t2]; simp) ?_))))))
    cases h2 : (vID s).2 with
    | true =>
      rw [h2] at t1 t3
      have hb : ((vND s).2 != (vID s).1) = false := by rw [t1, Bool.true_and]; simp
      rw [hb]
      exact Ev.pos rfl t3
    | false =>
      rw [h2] at t1 t3
      have hb : ((vND s).2 != false) = false := by rw [t1]; rfl
      rw [hb]
      exact Ev.neg (by decide) t3
end Go.Proofs.YtfhbclfmnliopaaGreatDoor

namespace Go.Proofs.YtfhbclfmnliopaaGreatDoor
open Go.RowKit Go.Proofs.YtfhbclfmnliopaaGreatDoorW.PrintWords Go.ChangeShapes Go.WideShapes

theorem C_scalar {α : Type} {enc : α → Value} {h1 : ∀ x, (enc x).oneCell' = true} {w : World} {A : Option Addr} {l : List α} (hn : l.length ≤ 9223372036854775807)
    (hcell : 0 < l.length → ∃ ad, A = some ad ∧ ∀ j x, l[j]? = some x → w.cell? (ad.add j) = some (enc x)) : (Kd.scalar enc h1).C w A l.length l := by
  refine ⟨rfl, hn, fun hp => ?_⟩
  obtain ⟨ad, hA, hc⟩ := hcell hp
  refine ⟨ad, hA, fun j x hx => ⟨[enc x], rfl, rfl, fun i u hu => ?_⟩⟩
  match i, hu with
  | 0, hu =>
    have : enc x = u := by simpa using hu
    subst this
    show w.cell? (ad.add (j * 1 + 0)) = _
    rw [Nat.mul_one, Nat.add_zero]
    exact hc j x hx
  | i + 1, hu => simp at hu

section
variable {H : Type} {enc : TypeId × Value → H} {P : Program} {w : World} {base : Nat} {spare : Nat → Bool} {held : Bool}

/-- A cell that reads at a slice of whole numbers. -/
theorem read_ints {t e : TypeId} {k : IntKind} {fuel : Nat} {v : Value} {y : DataW H × List MemPlace} (ht : P.underlying t = some (.slice e)) (he : P.underlying e = some (.int k)) (hc : P.cellsOf e = 1)
    (hf : DataW.trod enc P w base spare held fuel t [v] = some y) :
    ∃ (A : Option Addr) (c : Nat) (l : List Int), v = .slice A l.length c ∧ l.length ≤ c ∧ (∀ x ∈ l, (Lit.int k x).wf = true) ∧ (Kd.int k).C w A l.length l := by
  rcases open_ints ht he hc hf with ⟨hcs, _⟩ | ⟨a, len, cap, zs, hcs, _, hl, hm, hz, _, hcell, hwf⟩
  · obtain rfl : v = .slice none 0 0 := by simpa using hcs
    exact ⟨none, 0, [], rfl, Nat.le_refl _, fun x hx => by simp at hx, rfl, by simp, fun h => absurd h (by simp)⟩
  · obtain rfl : v = .slice (some a) len cap := by simpa using hcs
    have hlz : len ≤ zs.length := by rw [hz]; split <;> omega
    have hlen : (zs.take len).length = len := by rw [List.length_take]; omega
    refine ⟨some a, cap, zs.take len, by rw [hlen], by rw [hlen]; exact hl, fun x hx => hwf x (List.mem_of_mem_take hx), ?_⟩
    refine C_scalar (by rw [hlen]; unfold maxLen at hm; omega) (fun hp => ⟨a, rfl, fun j x hj => ?_⟩)
    have hj' : j < len := by have := (List.getElem?_eq_some_iff.1 hj).1; rw [hlen] at this; exact this
    rw [hcell j (by omega)]
    rw [List.getElem?_take_of_lt hj'] at hj
    rw [List.getD_eq_getElem?_getD, hj]; rfl

/-- A cell that reads at a slice of strings. -/
theorem read_strs {t e : TypeId} {fuel : Nat} {v : Value} {y : DataW H × List MemPlace} (ht : P.underlying t = some (.slice e)) (he : P.underlying e = some .string) (hc : P.cellsOf e = 1)
    (hf : DataW.trod enc P w base spare held fuel t [v] = some y) :
    ∃ (A : Option Addr) (c : Nat) (l : List ByteArray), v = .slice A l.length c ∧ l.length ≤ c ∧ (∀ s ∈ l, s.size ≤ 9223372036854775807) ∧ Kd.string.C w A l.length l := by
  rcases open_strings ht he hc hf with ⟨hcs, _⟩ | ⟨a, len, cap, zs, hcs, _, hl, hm, hz, _, hcell, hwf⟩
  · obtain rfl : v = .slice none 0 0 := by simpa using hcs
    exact ⟨none, 0, [], rfl, Nat.le_refl _, fun x hx => by simp at hx, rfl, by simp, fun h => absurd h (by simp)⟩
  · obtain rfl : v = .slice (some a) len cap := by simpa using hcs
    have hlz : len ≤ zs.length := by rw [hz]; split <;> omega
    have hlen : (zs.take len).length = len := by rw [List.length_take]; omega
    refine ⟨some a, cap, zs.take len, by rw [hlen], by rw [hlen]; exact hl, fun x hx => by have := hwf x (List.mem_of_mem_take hx); unfold maxLen at this; omega, ?_⟩
    refine C_scalar (by rw [hlen]; unfold maxLen at hm; omega) (fun hp => ⟨a, rfl, fun j x hj => ?_⟩)
    have hj' : j < len := by have := (List.getElem?_eq_some_iff.1 hj).1; rw [hlen] at this; exact this
    rw [hcell j (by omega)]
    rw [List.getElem?_take_of_lt hj'] at hj
    rw [List.getD_eq_getElem?_getD, hj]; rfl

theorem read_int {t : TypeId} {k : IntKind} {fuel : Nat} {v : Value} {y : DataW H × List MemPlace} (ht : P.underlying t = some (.int k))
    (hf : DataW.trod enc P w base spare held fuel t [v] = some y) : ∃ n : Int, v = .int k n ∧ (Lit.int k n).wf = true := by
  obtain ⟨n, e1, _, h⟩ := DataW.trod_int ht hf
  exact ⟨n, by simpa using e1, h⟩
end

/-- The cells of a datum that holds numbers alone, an array's elements being numbers or structs of numbers. -/
def litsOf : DataW Unit → List Value
  | .lit (.int k n) => [.int k n]
  | .agg l => l.flatMap fun
    | .lit (.int k n) => [.int k n]
    | .agg l2 => l2.flatMap fun
      | .lit (.int k n) => [.int k n]
      | _ => []
    | _ => []
  | _ => []
end Go.Proofs.YtfhbclfmnliopaaGreatDoor

/- FnPatternsDrawnCardSaid: the law 'FnPatternsDrawn' answers true for every input, and leaves its arguments as they were. The row and its tied card, over the walk of its calls and the pure statement. -/
namespace Go.Proofs.YtfhbclfmnliopaaGreatDoor.fnPatternsDrawn
open Go.ChangeShapes Go.WideShapes Go.ChangeAt Go.RowKit Go.Proofs.YtfhbclfmnliopaaGreatDoor.P Go.Proofs.YtfhbclfmnliopaaGreatDoorW.PrintWords
open Go.ChangeMaps (open_string shut_string)
set_option linter.unusedVariables false
theorem own : ownKnob Tryz.prog.godebug = none := by kernel_rfl
theorem laidOut : laidOutB Tryz.prog = true := by kernel_rfl
/-- What the row lists of package-level variables. -/
noncomputable def laidList : List (String × DataW Unit) := [("unicode/utf8.acceptRanges", Rows.laid_unicode_utf8_acceptRanges), ("unicode/utf8.first", Rows.laid_unicode_utf8_first)]
/-- A world that meets it: the settled one, the listed variables laid. -/
noncomputable def laidWorld (os : Os) : World :=
  let w0 := World.holding Tryz.prog os ⟨#[], #[], []⟩
  { w0 with heap := ((w0.heap.modify 2 fun o => match o with | .cells _ t frozen => .cells (litsOf Rows.laid_unicode_utf8_acceptRanges).toArray t frozen | o => o).modify 1 fun o => match o with | .cells _ t frozen => .cells (litsOf Rows.laid_unicode_utf8_first).toArray t frozen | o => o) }
theorem laidWorld_met (os : Os) (args : Array Value) : laidMetH Tryz.prog laidList ((laidWorld os).forCall (fun _ _ => 0) ⟨#[], args, []⟩).memory :=
  laidMetH_of_parts3 (fuel := 8) (laidMet_of_run' 8 (by kernel_rfl) (by kernel_rfl)) (by kernel_rfl) (by kernel_rfl)
set_option maxRecDepth 100000 in
theorem lifted (os : Os) (started : os.Started) (H : Type) (enc : TypeId × Value → H) :
    ReturnsInHanded {} Tryz.checked os 3 .any (fun w args => (Rows.fnPatternsDrawnSpec.pre enc Tryz.prog Tryz.f3 [] false w args ∧ laidMetH Tryz.prog laidList w) ∧ sizedMet enc Tryz.prog Tryz.f3 (OpenSpec.ofChange Rows.fnPatternsDrawnSpec) false w args)
      (Rows.fnPatternsDrawnSpec.post enc Tryz.prog Tryz.f3 false true false false) := by
  refine returnsInHanded_of_change_and (C := Tryz.checked) (X := fun w _ => laidMetH Tryz.prog laidList w) (fun _ _ _ hh h => h.of_heap hh) own started (by kernel_rfl) Tryz.func3
    (ChangeSpec.witness_at (enc := enc) (C := Tryz.checked) (os := os) (X := fun w _ => laidMetH Tryz.prog laidList w) false (laidWorld os) #[.slice none 0 0, .slice none 0 0] 8 rfl (by kernel_rfl) (by kernel_rfl) (by kernel_rfl) (by kernel_rfl) (by kernel_rfl) (laidWorld_met os _)) ?_
  intro W base args ds gs before hval0 hW _ _ hL _
  have hval : ∀ (j : Nat) t v, Tryz.f3.params[j]? = some t → args[j]? = some v → Value.okWide Tryz.prog W .any base t v := hval0
  have hW' := hW
  obtain ⟨p, q, hA0, hV, rfl, hfz, hnd⟩ := hW
  have hA : DataW.TrodAll enc Tryz.prog W 0 (fun _ => true) true Tryz.f3.params.toList args.toList ds p := hA0
  rw [Tryz.params3] at hA hval
  obtain ⟨v0, vs0, d0, ds0, p0, q0, hargs, rfl, rfl, h0, r0⟩ := trodAll_cons hA
  obtain ⟨v1, vs1, d1, ds1, p1, q1, rfl, rfl, rfl, h1, r1⟩ := trodAll_cons r0
  obtain ⟨rfl, rfl, rfl⟩ := trodAll_nil r1
  obtain rfl : args = #[v0, v1] := by cases args; simp_all
  obtain ⟨rfl, rfl⟩ := trodVars_none hV
  have k0 := h0
  have lt0 : ∀ x ∈ p0, x.block < W.heap.size := by obtain ⟨m, hm⟩ := k0; exact DataW.trod_lt m _ _ _ hm
  obtain ⟨a0, len0, cap0, rfl⟩ := okWide_slice Tryz.underlying22 (hval 0 22 v0 rfl rfl)
  obtain ⟨fu0, hf0⟩ := h0
  have hg0 : DataW.trod enc Tryz.prog W 0 (fun _ => true) true fu0 22 [.slice a0 len0 cap0] = some (d0, p0) := by simpa [Value.cells] using hf0
  clear hf0
  obtain ⟨vv0, hvv0⟩ : ∃ v, v = Value.slice a0 len0 cap0 := ⟨_, rfl⟩
  rw [← hvv0] at hg0 hW' k0 ⊢
  obtain ⟨A0, c0, l0, rfl, hc0, hw0, hr0⟩ := read_ints Tryz.underlying22 Tryz.underlying5 (by kernel_rfl) hg0
  have k1 := h1
  have lt1 : ∀ x ∈ p1, x.block < W.heap.size := by obtain ⟨m, hm⟩ := k1; exact DataW.trod_lt m _ _ _ hm
  obtain ⟨a1, len1, cap1, rfl⟩ := okWide_slice Tryz.underlying22 (hval 1 22 v1 rfl rfl)
  obtain ⟨fu1, hf1⟩ := h1
  have hg1 : DataW.trod enc Tryz.prog W 0 (fun _ => true) true fu1 22 [.slice a1 len1 cap1] = some (d1, p1) := by simpa [Value.cells] using hf1
  clear hf1
  obtain ⟨vv1, hvv1⟩ : ∃ v, v = Value.slice a1 len1 cap1 := ⟨_, rfl⟩
  rw [← hvv1] at hg1 hW' k1 ⊢
  obtain ⟨A1, c1, l1, rfl, hc1, hw1, hr1⟩ := read_ints Tryz.underlying22 Tryz.underlying5 (by kernel_rfl) hg1
  clear hA0 hval0
  obtain ⟨k, hk⟩ := pure_FnPatternsDrawn l0 l1 ⟨hr0.2.1, hw0⟩ ⟨hr1.2.1, hw1⟩
  refine (laws_FnPatternsDrawn.calls k A0 c0 l0 A1 c1 l1 true W hr0 hc0 hr1 hc1 hk).mono fun e W' ⟨he, bel0⟩ => ?_
  have bel : Below W.heap.size W W' := bel0
  subst he
  exact ⟨_, rfl, _, _, _, [], _, [], hW', trodAll_mk1 (shut_bool Tryz.underlying4 _), (trodAll_cons_mk (Below.trod laidOut (by kernel_rfl) (of_decide_eq_true (by kernel_rfl)) k0 bel lt0) (trodAll_cons_mk (Below.trod laidOut (by kernel_rfl) (of_decide_eq_true (by kernel_rfl)) k1 bel lt1) trodAll_mk0)), rfl, bel.frame _, fun h => by cases h⟩
theorem over : Rows.fnPatternsDrawnRow.holds Tryz.pinned (OpenSpec.ofChange Rows.fnPatternsDrawnSpec) :=
  OpenClaim.holds_of_wide 3 Tryz.f3 rfl rfl rfl rfl rfl rfl rfl ⟨rfl, rfl, rfl, rfl, rfl⟩ rfl rfl rfl rfl rfl (by kernel_rfl) Tryz.func3 (by kernel_rfl)
    (of_decide_eq_true (by kernel_rfl)) (by unfold Func.isWrapper; first | (rw [if_pos (by decide +kernel)]; kernel_rfl) | (rw [if_neg (by decide +kernel)]; exact ⟨rfl, rfl⟩))
    (fun os started H enc _ => lifted os started H enc)
theorem proved : Rows.FnPatternsDrawnSaid := over
theorem card : Rows.FnPatternsDrawnCardSaid :=
  Claim7.holds_tied_plain_at .later [] [.data, .pinned] true (true, "402daf22c454d8a406d214134ae56ebc478d85906364852c926bdad4a4c75164") false
    proved (fun _ h => by cases h) (by kernel_rfl) (fun _ h => by cases h) fnPatternsDrawn_row_tie rfl ⟨rfl, rfl⟩ (by kernel_rfl) rfl
    (fun f fn hf hfn => by
      obtain rfl : f = 3 := Option.some.inj ((show Tryz.prog.funcNamed "loop.example/g01350/laws.FnPatternsDrawn" = some 3 by kernel_rfl).symm.trans hf) |>.symm
      obtain rfl : fn = Tryz.f3 := (Option.some.inj (Tryz.func3.symm.trans hfn)).symm
      exact ⟨by kernel_rfl, fun j t ht => by
        rw [Tryz.params3] at ht
        have hm : t ∈ #[22, 22] := Array.mem_of_getElem? ht
        have hm : t ∈ [22, 22] := by simpa using hm
        have hall : ([22, 22].all fun u => !Tryz.prog.wantsStandIn u) = true := by kernel_rfl
        exact (show Tryz.prog.wantsStandIn t = false by simpa using List.all_eq_true.1 hall t hm)⟩)
    (by kernel_rfl)
#print axioms card
end Go.Proofs.YtfhbclfmnliopaaGreatDoor.fnPatternsDrawn
namespace Go.Proofs.YtfhbclfmnliopaaGreatDoor
theorem fnPatternsDrawn_holds : Rows.FnPatternsDrawnCardSaid := fnPatternsDrawn.card
end Go.Proofs.YtfhbclfmnliopaaGreatDoor

