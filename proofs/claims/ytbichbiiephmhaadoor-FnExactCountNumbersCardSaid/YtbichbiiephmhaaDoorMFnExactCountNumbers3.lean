/- Part 3 of 3 of the proof of: FnExactCountNumbersCardSaid: the law 'FnExactCountNumbers' answers true for every input, and leaves its arguments as they were. The row and its tied card, over the walk of its calls and the pure statement. -/
import Derived.Test.YtbichbiiephmhaaDoorMFnExactCountNumbers2
import Derived.Test.YtbichbiiephmhaaDoorWMore
import Derived.WalkKit
import Derived.ProofKit
import Derived.OpenShut
import Derived.ShutString
import Derived.ChangeOld
import Derived.Below
import Derived.SizedLaws
import Derived.ChangeSlices
import Derived.SliceStrings
import Derived.Lib.SmallJoins
import Derived.LaidLaws
import Derived.LaidHandle
import Derived.LaidMore
import Derived.Test.YtbichbiiephmhaaDoorRows
import Derived.Test.YtbichbiiephmhaaDoorCards
import Derived.Test.YtbichbiiephmhaaDoorTie
import Derived.Handed
import Derived.SevenTiedAt
import Derived.Stop.Joined
/- FnExactCountNumbers: both sides tell the same numbers: over the functions that the walk computes. -/
namespace Go.Proofs.YtbichbiiephmhaaDoor
open Go.RowKit Go.Proofs.YtbichbiiephmhaaDoor.P Go.Proofs.YtbichbiiephmhaaDoorW.PrintWords
set_option linter.unusedSimpArgs false
theorem countNumbers_two (a s : ByteArray) (n : Int) (h1 : s.size ≤ 9223372036854775807) : ∃ r, Ev (fun k => spec_CountNumbers.f k a s n) r ∧ Ev (fun k => impl_CountNumbers.f k a s n) r := by
  unfold spec_CountNumbers.f impl_CountNumbers.f
  have fi : Ev (fun k => impl_CountNumbers.j0 k a s n true) (0, false) := by
    apply Ev.succ; simp only [impl_CountNumbers.j0]; exact Ev.yes (Ev.now _)
  cases hp : pieceB (bl a) with
  | false => exact ⟨(0, false), Ev.bind (wkAsked_ev a s) (by rw [hp, Bool.false_and]; exact Ev.no (Ev.now _)), Ev.bindc (by rw [isPiece_eq, hp]) (Ev.no fi)⟩
  | true =>
    cases hd : digsB (bl s) 1 1 with
    | false => exact ⟨(0, false), Ev.bind (wkAsked_ev a s) (by rw [hp, hd, Bool.and_false]; exact Ev.no (Ev.now _)), Ev.bindc (by rw [isPiece_eq, hp]) (Ev.yes (Ev.bindc (by rw [isDigit_eq s h1, hd]) (Ev.no fi)))⟩
    | true =>
      cases hn : (decide (1 ≤ n) && decide (n ≤ 40)) with
      | false => exact ⟨(0, false), Ev.bind (wkAsked_ev a s) (by rw [hp, hd, Bool.and_true]; exact Ev.yes (Ev.bindc (by rw [l1In_eq, hn]) (Ev.no (Ev.now _)))), Ev.bindc (by rw [isPiece_eq, hp]) (Ev.yes (Ev.bindc (by rw [isDigit_eq s h1, hd]) (Ev.yes (Ev.bindc (x := false) (by unfold impl_longOk.f; rw [in_eq, hn]; rfl) fi))))⟩
      | true =>
        have hpc := isPc_of hp
        obtain ⟨d, hd10, rfl⟩ := digit_of hd
        simp only [Bool.and_eq_true, decide_eq_true_eq] at hn
        obtain ⟨m, rfl⟩ : ∃ m : Nat, n = (m : Int) + 1 := ⟨(n - 1).toNat, by omega⟩
        have hr := itr_len (tbl_shape hpc).1 (row0_len 0) m
        have em : wrap64 ((m : Int) + 1 - 1) = m := by rw [wrap_id (by omega) (by omega)]; omega
        have hlo : (decide (1 ≤ (m : Int) + 1) && decide ((m : Int) + 1 ≤ 40)) = true := by simp; omega
        refine ⟨fewP (rd (itr (tbl a) (row0 0) m) d), Ev.bind (wkAsked_ev a _) ?_, Ev.bindc (by rw [isPiece_eq, hp]) (Ev.yes (Ev.bindc (by rw [isDigit_eq _ h1, hd]) (Ev.yes (Ev.bindc (by unfold impl_longOk.f; rw [in_eq, hlo]; rfl) (Ev.succ ?_)))))⟩
        · rw [hp, hd, Bool.and_true, em]
          refine Ev.yes (Ev.bindc (by rw [l1In_eq, hlo]) (Ev.yes (Ev.pos (sign_size d) ?_)))
          rw [sign_bt d hd10]
          exact Ev.bind (wkCount_ev hpc d m hd10 (by omega) 0) (Ev.now _)
        · simp only [impl_CountNumbers.j0]
          refine Ev.no (Ev.bind (numbers_ev hpc m (by omega)) (Ev.pos (sign_size d) ?_))
          rw [sign_bt d hd10]
          simp only [impl_digit.f, Option.bind_some, digit_sign d hd10]
          refine Ev.pos (by omega) (Ev.pos (by omega) (Ev.bindc (few_eq _) (Ev.now _)))
theorem pure_FnExactCountNumbers : PureFnExactCountNumbers := by
  intro a s n h0 h1 h2
  refine Ev.rounds (g := fun k => laws_FnExactCountNumbers.f k a s n) ?_
  unfold laws_FnExactCountNumbers.f
  rcases Nat.lt_or_ge 1048576 a.size with c0 | c0
  · exact Ev.pos (by omega) (Ev.now _)
  refine Ev.neg (by omega) ?_
  rcases Nat.lt_or_ge 1048576 s.size with c1 | c1
  · exact Ev.pos (by omega) (Ev.now _)
  refine Ev.neg (by omega) ?_
  obtain ⟨r, hs, hi⟩ := countNumbers_two a s n h1
  refine Ev.bind hs (Ev.bind hi ?_)
  exact Ev.yes (Ev.no (Ev.now _))
end Go.Proofs.YtbichbiiephmhaaDoor

namespace Go.Proofs.YtbichbiiephmhaaDoor
open Go.RowKit Go.Proofs.YtbichbiiephmhaaDoorW.PrintWords Go.ChangeShapes Go.WideShapes

theorem C_scalar {α : Type} {enc : α → Value} {h1 : ∀ x, (enc x).oneCell' = true} {w : World} {A : Option Addr} {l : List α} (hn : l.length ≤ 9223372036854775807)
    (hcell : 0 < l.length → ∃ ad, A = some ad ∧ ∀ j x, l[j]? = some x → w.cell? (ad.add j) = some (enc x)) : (Kd.scalar enc h1).C w A l.length l := by
  refine ⟨rfl, hn, fun hp => ?_⟩
  obtain ⟨ad, hA, hc⟩ := hcell hp
  refine ⟨ad, hA, fun j x hx => ⟨[enc x], rfl, rfl, fun i u hu => ?_⟩⟩
  match i, hu with
  | 0, hu =>
    have : enc x = u := by simpa using hu
    subst this
    show w.cell? (ad.add (j * 1 + 0)) = _
    rw [Nat.mul_one, Nat.add_zero]
    exact hc j x hx
  | i + 1, hu => simp at hu

section
variable {H : Type} {enc : TypeId × Value → H} {P : Program} {w : World} {base : Nat} {spare : Nat → Bool} {held : Bool}

/-- A cell that reads at a slice of whole numbers. -/
theorem read_ints {t e : TypeId} {k : IntKind} {fuel : Nat} {v : Value} {y : DataW H × List MemPlace} (ht : P.underlying t = some (.slice e)) (he : P.underlying e = some (.int k)) (hc : P.cellsOf e = 1)
    (hf : DataW.trod enc P w base spare held fuel t [v] = some y) :
    ∃ (A : Option Addr) (c : Nat) (l : List Int), v = .slice A l.length c ∧ l.length ≤ c ∧ (∀ x ∈ l, (Lit.int k x).wf = true) ∧ (Kd.int k).C w A l.length l := by
  rcases open_ints ht he hc hf with ⟨hcs, _⟩ | ⟨a, len, cap, zs, hcs, _, hl, hm, hz, _, hcell, hwf⟩
  · obtain rfl : v = .slice none 0 0 := by simpa using hcs
    exact ⟨none, 0, [], rfl, Nat.le_refl _, fun x hx => by simp at hx, rfl, by simp, fun h => absurd h (by simp)⟩
  · obtain rfl : v = .slice (some a) len cap := by simpa using hcs
    have hlz : len ≤ zs.length := by rw [hz]; split <;> omega
    have hlen : (zs.take len).length = len := by rw [List.length_take]; omega
    refine ⟨some a, cap, zs.take len, by rw [hlen], by rw [hlen]; exact hl, fun x hx => hwf x (List.mem_of_mem_take hx), ?_⟩
    refine C_scalar (by rw [hlen]; unfold maxLen at hm; omega) (fun hp => ⟨a, rfl, fun j x hj => ?_⟩)
    have hj' : j < len := by have := (List.getElem?_eq_some_iff.1 hj).1; rw [hlen] at this; exact this
    rw [hcell j (by omega)]
    rw [List.getElem?_take_of_lt hj'] at hj
    rw [List.getD_eq_getElem?_getD, hj]; rfl

/-- A cell that reads at a slice of strings. -/
theorem read_strs {t e : TypeId} {fuel : Nat} {v : Value} {y : DataW H × List MemPlace} (ht : P.underlying t = some (.slice e)) (he : P.underlying e = some .string) (hc : P.cellsOf e = 1)
    (hf : DataW.trod enc P w base spare held fuel t [v] = some y) :
    ∃ (A : Option Addr) (c : Nat) (l : List ByteArray), v = .slice A l.length c ∧ l.length ≤ c ∧ (∀ s ∈ l, s.size ≤ 9223372036854775807) ∧ Kd.string.C w A l.length l := by
  rcases open_strings ht he hc hf with ⟨hcs, _⟩ | ⟨a, len, cap, zs, hcs, _, hl, hm, hz, _, hcell, hwf⟩
  · obtain rfl : v = .slice none 0 0 := by simpa using hcs
    exact ⟨none, 0, [], rfl, Nat.le_refl _, fun x hx => by simp at hx, rfl, by simp, fun h => absurd h (by simp)⟩
  · obtain rfl : v = .slice (some a) len cap := by simpa using hcs
    have hlz : len ≤ zs.length := by rw [hz]; split <;> omega
    have hlen : (zs.take len).length = len := by rw [List.length_take]; omega
    refine ⟨some a, cap, zs.take len, by rw [hlen], by rw [hlen]; exact hl, fun x hx => by have := hwf x (List.mem_of_mem_take hx); unfold maxLen at this; omega, ?_⟩
    refine C_scalar (by rw [hlen]; unfold maxLen at hm; omega) (fun hp => ⟨a, rfl, fun j x hj => ?_⟩)
    have hj' : j < len := by have := (List.getElem?_eq_some_iff.1 hj).1; rw [hlen] at this; exact this
    rw [hcell j (by omega)]
    rw [List.getElem?_take_of_lt hj'] at hj
    rw [List.getD_eq_getElem?_getD, hj]; rfl

theorem read_int {t : TypeId} {k : IntKind} {fuel : Nat} {v : Value} {y : DataW H × List MemPlace} (ht : P.underlying t = some (.int k))
    (hf : DataW.trod enc P w base spare held fuel t [v] = some y) : ∃ n : Int, v = .int k n ∧ (Lit.int k n).wf = true := by
  obtain ⟨n, e1, _, h⟩ := DataW.trod_int ht hf
  exact ⟨n, by simpa using e1, h⟩
end

/-- The cells of a datum that holds numbers alone, an array's elements being numbers or structs of numbers. -/
def litsOf : DataW Unit → List Value
  | .lit (.int k n) => [.int k n]
  | .agg l => l.flatMap fun
    | .lit (.int k n) => [.int k n]
    | .agg l2 => l2.flatMap fun
      | .lit (.int k n) => [.int k n]
      | _ => []
    | _ => []
  | _ => []
end Go.Proofs.YtbichbiiephmhaaDoor

/- FnExactCountNumbersCardSaid: the law 'FnExactCountNumbers' answers true for every input, and leaves its arguments as they were. The row and its tied card, over the walk of its calls and the pure statement. -/
namespace Go.Proofs.YtbichbiiephmhaaDoor.fnExactCountNumbers
open Go.ChangeShapes Go.WideShapes Go.ChangeAt Go.RowKit Go.Proofs.YtbichbiiephmhaaDoor.P Go.Proofs.YtbichbiiephmhaaDoorW.PrintWords
open Go.ChangeMaps (open_string shut_string)
set_option linter.unusedVariables false
theorem own : ownKnob Tryd.prog.godebug = none := by kernel_rfl
/-- What the row lists of package-level variables. -/
noncomputable def laidList : List (String × DataW Unit) := [("unicode/utf8.acceptRanges", Rows.laid_unicode_utf8_acceptRanges), ("unicode/utf8.first", Rows.laid_unicode_utf8_first)]
/-- A world that meets it: the settled one, the listed variables laid. -/
noncomputable def laidWorld (os : Os) : World :=
  let w0 := World.holding Tryd.prog os ⟨#[], #[], []⟩
  { w0 with heap := ((w0.heap.modify 2 fun o => match o with | .cells _ t frozen => .cells (litsOf Rows.laid_unicode_utf8_acceptRanges).toArray t frozen | o => o).modify 1 fun o => match o with | .cells _ t frozen => .cells (litsOf Rows.laid_unicode_utf8_first).toArray t frozen | o => o) }
theorem laidWorld_met (os : Os) (args : Array Value) : laidMetH Tryd.prog laidList ((laidWorld os).forCall (fun _ _ => 0) ⟨#[], args, []⟩).memory :=
  laidMetH_of_parts3 (fuel := 8) (laidMet_of_run' 8 (by kernel_rfl) (by kernel_rfl)) (by kernel_rfl) (by kernel_rfl)
set_option maxRecDepth 100000 in
theorem lifted (os : Os) (started : os.Started) (H : Type) (enc : TypeId × Value → H) :
    ReturnsInHanded {} Tryd.checked os 7 .any (fun w args => (Rows.fnExactCountNumbersSpec.pre enc Tryd.prog Tryd.f7 [] false w args ∧ laidMetH Tryd.prog laidList w) ∧ sizedMet enc Tryd.prog Tryd.f7 (OpenSpec.ofChange Rows.fnExactCountNumbersSpec) false w args)
      (Rows.fnExactCountNumbersSpec.post enc Tryd.prog Tryd.f7 false true false false) := by
  refine returnsInHanded_of_change_and (C := Tryd.checked) (X := fun w _ => laidMetH Tryd.prog laidList w) (fun _ _ _ hh h => h.of_heap hh) own started (by kernel_rfl) Tryd.func7
    (ChangeSpec.witness_at (enc := enc) (C := Tryd.checked) (os := os) (X := fun w _ => laidMetH Tryd.prog laidList w) false (laidWorld os) #[.string ByteArray.empty, .string ByteArray.empty, .int .i64 0] 8 rfl (by kernel_rfl) (by kernel_rfl) (by kernel_rfl) (by kernel_rfl) (by kernel_rfl) (laidWorld_met os _)) ?_
  intro W base args ds gs before hval0 hW _ _ hL _
  have hval : ∀ (j : Nat) t v, Tryd.f7.params[j]? = some t → args[j]? = some v → Value.okWide Tryd.prog W .any base t v := hval0
  have hW' := hW
  obtain ⟨p, q, hA0, hV, rfl, hfz, hnd⟩ := hW
  have hA : DataW.TrodAll enc Tryd.prog W 0 (fun _ => true) true Tryd.f7.params.toList args.toList ds p := hA0
  rw [Tryd.params7] at hA hval
  obtain ⟨v0, vs0, d0, ds0, p0, q0, hargs, rfl, rfl, h0, r0⟩ := trodAll_cons hA
  obtain ⟨v1, vs1, d1, ds1, p1, q1, rfl, rfl, rfl, h1, r1⟩ := trodAll_cons r0
  obtain ⟨v2, vs2, d2, ds2, p2, q2, rfl, rfl, rfl, h2, r2⟩ := trodAll_cons r1
  obtain ⟨rfl, rfl, rfl⟩ := trodAll_nil r2
  obtain rfl : args = #[v0, v1, v2] := by cases args; simp_all
  obtain ⟨rfl, rfl⟩ := trodVars_none hV
  obtain ⟨a0, rfl, rfl, rfl, y0⟩ := open_string Tryd.underlying9 (hval 0 9 v0 rfl rfl) h0
  have z0 : a0.size ≤ 9223372036854775807 := by unfold maxLen at y0; omega
  obtain ⟨a1, rfl, rfl, rfl, y1⟩ := open_string Tryd.underlying9 (hval 1 9 v1 rfl rfl) h1
  have z1 : a1.size ≤ 9223372036854775807 := by unfold maxLen at y1; omega
  obtain ⟨a2, rfl, rfl, rfl, w2⟩ := open_int Tryd.underlying3 (hval 2 3 v2 rfl rfl) h2
  clear hA0 hval0
  simp only [List.append_nil] at hW'
  obtain ⟨k, hk⟩ := pure_FnExactCountNumbers a0 a1 a2 z0 z1 w2
  refine (laws_FnExactCountNumbers.calls k a0 a1 a2 true W  hk).mono fun e W' ⟨he, bel0⟩ => ?_
  have bel : Below W.heap.size W W' := bel0
  subst he
  exact ⟨_, rfl, _, _, _, [], [], [], hW', trodAll_mk1 (shut_bool Tryd.underlying4 _), (trodAll_cons_mk (shut_string Tryd.underlying9 y0) (trodAll_cons_mk (shut_string Tryd.underlying9 y1) (trodAll_cons_mk (shut_int Tryd.underlying3 w2) trodAll_mk0))), rfl, bel.frame _, fun h => by cases h⟩
theorem over : Rows.fnExactCountNumbersRow.holds Tryd.pinned (OpenSpec.ofChange Rows.fnExactCountNumbersSpec) :=
  OpenClaim.holds_of_wide 7 Tryd.f7 rfl rfl rfl rfl rfl rfl rfl ⟨rfl, rfl, rfl, rfl, rfl⟩ rfl rfl rfl rfl rfl (by kernel_rfl) Tryd.func7 (by kernel_rfl)
    (of_decide_eq_true (by kernel_rfl)) (by unfold Func.isWrapper; first | (rw [if_pos (by decide +kernel)]; kernel_rfl) | (rw [if_neg (by decide +kernel)]; exact ⟨rfl, rfl⟩))
    (fun os started H enc _ => lifted os started H enc)
theorem proved : Rows.FnExactCountNumbersSaid := over
theorem card : Rows.FnExactCountNumbersCardSaid :=
  Claim7.holds_tied_plain_at .later [] [.data, .pinned] true (true, "60c4429d754dc42039e1069a9847a88d69239606673fb917d8fd30c9a49ea671") false
    proved (fun _ h => by cases h) (by kernel_rfl) (fun _ h => by cases h) fnExactCountNumbers_row_tie rfl ⟨rfl, rfl⟩ (by kernel_rfl) rfl
    (fun f fn hf hfn => by
      obtain rfl : f = 7 := Option.some.inj ((show Tryd.prog.funcNamed "loop.example/g01350/laws.FnExactCountNumbers" = some 7 by kernel_rfl).symm.trans hf) |>.symm
      obtain rfl : fn = Tryd.f7 := (Option.some.inj (Tryd.func7.symm.trans hfn)).symm
      exact ⟨by kernel_rfl, fun j t ht => by
        rw [Tryd.params7] at ht
        have hm : t ∈ #[9, 9, 3] := Array.mem_of_getElem? ht
        have hm : t ∈ [9, 9, 3] := by simpa using hm
        have hall : ([9, 9, 3].all fun u => !Tryd.prog.wantsStandIn u) = true := by kernel_rfl
        exact (show Tryd.prog.wantsStandIn t = false by simpa using List.all_eq_true.1 hall t hm)⟩)
    (by kernel_rfl)
#print axioms card
end Go.Proofs.YtbichbiiephmhaaDoor.fnExactCountNumbers
namespace Go.Proofs.YtbichbiiephmhaaDoor
theorem fnExactCountNumbers_holds : Rows.FnExactCountNumbersCardSaid := fnExactCountNumbers.card
end Go.Proofs.YtbichbiiephmhaaDoor

