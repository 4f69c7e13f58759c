-- printed by xprint.py
import Derived.Test.YtijfgnkcgbedgaaPx0
namespace Go.Proofs.Ytijfgnkcgbedgaa.P
open Go.RowKit Go.Proofs.YtijfgnkcgbedgaaW.PrintWords Go.Proofs.YtijfgnkcgbedgaaW.PrintLast Go.Proofs.YtijfgnkcgbedgaaW.PrintMore
attribute [local go_sem] max2_int min2_int max_two min_two max_three min_three max_four min_four   -- for this text's walks alone
set_option linter.unusedVariables false
set_option linter.unusedSimpArgs false

/-! ### slices_IndexFunc_int_int: function 48 -/
/-- The place of the first element of which p holds, or -1. -/
def idxP {α : Type} (p : α → Bool) : List α → Int → Int
  | [], _ => -1
  | x :: xs, i => if p x = true then i else idxP p xs (i + 1)
theorem idxP_cons {α : Type} (p : α → Bool) (x : α) (xs : List α) (i : Int) : idxP p (x :: xs) i = if p x = true then i else idxP p xs (i + 1) := rfl
theorem idxP_nonneg {α : Type} (p : α → Bool) : ∀ (l : List α) (i : Int), 0 ≤ i → (0 ≤ idxP p l i ↔ l.any p = true)
  | [], _, _ => by simp [idxP]
  | x :: xs, i, hi => by
    unfold idxP
    by_cases h : p x = true
    · simp [h, hi]
    · simp [h, idxP_nonneg p xs (i + 1) (by omega)]
theorem idxP_ge {α : Type} (p : α → Bool) : ∀ (l : List α) (i : Int), idxP p l i = -1 ∨ i ≤ idxP p l i
  | [], _ => .inl rfl
  | x :: xs, i => by
    unfold idxP
    by_cases h : p x = true
    · simp [h]
    · rcases idxP_ge p xs (i + 1) with h' | h' <;> simp [h]
      · exact .inl h'
      · exact .inr (by omega)
set_option maxHeartbeats 4000000 in
theorem IndexFuncInt_calls (p : Int → Bool) (g : Nat) (lb : Array Value) (eg : ∀ args w, (callFunc g args).run Try.prog w = .ok (.enter g args) w) (A0 : Option Addr) (c0 : Nat) (l0 : List Int) (w : World)
    (hr0 : Kd.C (Kd.int .i64) w A0 l0.length l0) (hc0 : l0.length ≤ c0)
    (hp : ∀ (W : World) (x : Int), x ∈ l0 → Below w.heap.size w W → Calls Try.prog g (#[.int .i64 x] ++ lb) W fun e W' => e = .returned (.bool (p x)) ∧ Below W.heap.size W W') :
    Calls Try.prog 48 #[.slice A0 l0.length c0, .func (.func g) #[] lb] w fun e w' => e = .returned (.int .i64 (idxP p l0 0)) ∧ Below w.heap.size w w' := by
  have HR0 := Aside0.mk hr0
  have HP := Aside0.mk hp
  have hlen : l0.length ≤ 9223372036854775807 := hr0.2.1
  clear hr0 hp
  go_enter Try.func48, Try.ntmps48
  go_wp2
  go_loopg [5, 8] l0.length (fun gg _ s8 wr => ∃ kk : Nat, kk ≤ l0.length ∧ Aside0 (l0.length - kk ≤ gg) ∧ s8 = .int .i64 kk ∧ Aside0 (idxP p (l0.drop kk) kk = idxP p l0 0) ∧ Aside0 (Below w.heap.size w wr))
  case atStart => exact ⟨0, Nat.zero_le _, ⟨Nat.le_refl _⟩, rfl, ⟨by simp⟩, ⟨Below.refl _ _⟩⟩
  case round =>
    obtain ⟨kk, hkk, hg, rfl, A, HB⟩ := hrel
    by_cases hlt : kk < l0.length
    · have hltz : (kk : Int) < (l0.length : Int) := by omega
      obtain ⟨ad, e0, hx⟩ := Kd.at_int (Kd.C_below HR0.out HB.out) kk (by omega) hltz
      cases e0
      have hcall := HP.out _ l0[kk] (List.getElem_mem hlt) HB.out
      have hd : l0.drop kk = l0[kk] :: l0.drop (kk + 1) := List.drop_eq_getElem_cons hlt
      have hrd : rd l0 kk = l0[kk] := by unfold rd; simp [List.getD, hlt]
      rw [hrd] at hx
      rw [Int.toNat_natCast] at hx
      rw [hd, idxP_cons] at A
      clear hd hrd
      generalize l0[kk] = y at hx hcall A
      cases hq : p y with
      | true =>
        rw [hq] at hcall
        go_wp2_with fail
        refine hcall.mono ?_
        rintro e w' ⟨rfl, hb'⟩
        have hb := Aside0.mk (HB.out.trans (hb'.mono HB.out.size))
        clear hb'
        go_wp2_with fail
        go_ret
        refine ⟨?_, hb.out⟩
        rw [← A.out, if_pos hq]; rfl
      | false =>
        rw [hq] at hcall
        go_wp2_with fail
        refine hcall.mono ?_
        rintro e w' ⟨rfl, hb'⟩
        have hb := Aside0.mk (HB.out.trans (hb'.mono HB.out.size))
        clear hb'
        go_wp2_with fail
        go_roundg (l0.length - (kk + 1))
        case measure => have := hg.out; omega
        case rel => exact ⟨kk + 1, by omega, ⟨by omega⟩, by go_num, ⟨by have := A.out; rw [if_neg (by rw [hq]; decide)] at this; simpa using this⟩, hb⟩
    · have hltz : ¬ (kk : Int) < (l0.length : Int) := by omega
      have : kk = l0.length := by omega
      subst this
      go_wp2
      go_ret
      refine ⟨?_, HB.out⟩
      rw [← A.out]; simp [idxP]

end Go.Proofs.Ytijfgnkcgbedgaa.P
