/- Part 2 of 2 of the proof of: FnExactAreGuessesCardSaid: the law 'FnExactAreGuesses' answers true for every input, and leaves its arguments as they were. The row and its tied card, over the walk of its calls and the pure statement. -/
import Derived.Test.YtbjbbjkjkfofcaaDoorMFnExactAreGuesses1
import Derived.Test.YtbjbbjkjkfofcaaDoorRows
import Derived.Test.YtbjbbjkjkfofcaaDoorCards
import Derived.Test.YtbjbbjkjkfofcaaDoorTie
import Derived.WalkKit
import Derived.ProofKit
import Derived.OpenShut
import Derived.ShutString
import Derived.ChangeOld
import Derived.Below
import Derived.SizedLaws
import Derived.LaidMore
import Derived.LaidLaws
import Derived.LaidHandle
import Derived.Handed
import Derived.SevenTiedAt
import Derived.Stop.Joined
namespace Go.Proofs.YtbjbbjkjkfofcaaDoor
open Go.RowKit Go.Proofs.YtbjbbjkjkfofcaaDoor.P Go.Proofs.YtbjbbjkjkfofcaaDoorW.PrintWords
set_option linter.unusedSimpArgs false
set_option linter.unusedVariables false
/-! Lists of guesses: what the laws do with them, and whether they are guesses. -/
abbrev LG := S50
abbrev IG := S51
def toG (g : LG) : IG := ⟨g.f0, g.f1, g.f2⟩
theorem rdL (l : List LG) (j : Nat) (h : j < l.length) : rd_T50 l (j : Int) = l[j] := by unfold rd_T50; simp [List.getD, h]
theorem rdI (l : List IG) (j : Nat) (h : j < l.length) : rd_T51 l (j : Int) = l[j] := by unfold rd_T51; simp [List.getD, h]
theorem szG_l0 (l : List LG) (hl : l.length ≤ 1048576) (hs : ∀ g ∈ l, g.f0.size ≤ 9223372036854775807) : ∀ (d i : Nat) (x : Int), i + d = l.length → 0 ≤ x → x ≤ 1048576 → ∃ r, Ev (fun k => laws_szGuessS.l0 k l x i) r ∧ (¬ r < 0 → ∀ g ∈ l.drop i, g.f0.size ≤ 1048576)
  | 0, i, x, hi, h0, h1 => by
    refine ⟨x, ?_, fun _ g hg => ?_⟩
    · apply Ev.succ; simp only [laws_szGuessS.l0]; exact Ev.neg (by omega) (Ev.now _)
    · rw [List.drop_of_length_le (by omega)] at hg; simp at hg
  | d + 1, i, x, hi, h0, h1 => by
    have hlt : i < l.length := by omega
    have hsz := hs _ (List.getElem_mem hlt)
    by_cases c : (l[i].f0.size : Int) ≤ x
    · obtain ⟨r, hr, hg⟩ := szG_l0 l hl hs d (i + 1) (x - l[i].f0.size) (by omega) (by omega) (by omega)
      refine ⟨r, ?_, fun hn g hm => ?_⟩
      · apply Ev.succ; simp only [laws_szGuessS.l0]
        rw [rdL l i hlt]
        refine Ev.pos (by omega) (Ev.pos (by omega) (Ev.bindc (x := x - l[i].f0.size) ?_ (Ev.neg (by omega) ?_)))
        · unfold laws_szGuess.f; rw [wrap_id (by omega) (by omega), if_neg (by omega)]
        · rw [wrap_id (by omega) (by omega)]; exact_mod_cast hr
      · rw [List.drop_eq_getElem_cons hlt] at hm
        rcases List.mem_cons.1 hm with rfl | hm
        · omega
        · exact hg hn g hm
    · refine ⟨-1, ?_, fun hn => absurd (by omega) hn⟩
      apply Ev.succ; simp only [laws_szGuessS.l0]
      rw [rdL l i hlt]
      refine Ev.pos (by omega) (Ev.pos (by omega) (Ev.bindc (x := -1) ?_ (Ev.pos (by omega) (Ev.now _))))
      unfold laws_szGuess.f; rw [wrap_id (by omega) (by omega), if_pos (by omega)]
theorem szG_ev (l : List LG) (hl : l.length ≤ 9223372036854775807) (hs : ∀ g ∈ l, g.f0.size ≤ 9223372036854775807) : ∃ r, Ev (fun k => laws_szGuessS.f k l 1048576) r ∧ (¬ r < 0 → l.length ≤ 1048576 ∧ ∀ g ∈ l, g.f0.size ≤ 1048576) := by
  by_cases c : l.length ≤ 1048576
  · obtain ⟨r, hr, hg⟩ := szG_l0 l c hs l.length 0 (1048576 - l.length) (by omega) (by omega) (by omega)
    refine ⟨r, ?_, fun hn => ⟨c, fun g hm => hg hn g (by simpa using hm)⟩⟩
    unfold laws_szGuessS.f
    rw [wrap_id (by omega) (by omega)]
    exact Ev.neg (by omega) hr
  · refine ⟨-1, ?_, fun hn => absurd (by omega) hn⟩
    unfold laws_szGuessS.f
    rw [wrap_id (by omega) (by omega)]
    exact Ev.pos (by omega) (Ev.now _)
theorem toG_l0 (l : List LG) (hl : l.length ≤ 1048576) : ∀ (d i : Nat) (x : List IG), i + d = l.length → x.length = l.length → x.take i = (l.map toG).take i → Ev (fun k => laws_toGuessS.l0 k l x i) (l.map toG)
  | 0, i, x, hi, hx, ht => by
    apply Ev.succ; simp only [laws_toGuessS.l0]
    refine Ev.neg (by omega) (Ev.const ?_)
    rw [List.take_of_length_le (by omega), List.take_of_length_le (by simp; omega)] at ht
    rw [ht]
  | d + 1, i, x, hi, hx, ht => by
    have hlt : i < l.length := by omega
    apply Ev.succ; simp only [laws_toGuessS.l0]
    rw [rdL l i hlt]
    refine Ev.pos (by omega) (Ev.pos (by omega) (Ev.bindc rfl (Ev.pos (by omega) ?_)))
    rw [wrap_id (by omega) (by omega), Int.toNat_natCast]
    have := toG_l0 l hl d (i + 1) (x.set i (toG l[i])) (by omega) (by simp [hx]) (by
      rw [List.take_succ_eq_append_getElem (by simp; omega), List.take_succ_eq_append_getElem (by simp; omega), List.take_set_of_le (Nat.le_refl _), ht]
      simp)
    exact_mod_cast this
theorem toG_ev (l : List LG) (hl : l.length ≤ 1048576) : Ev (fun k => laws_toGuessS.f k l) (l.map toG) := by
  unfold laws_toGuessS.f
  refine Ev.pos (by omega) (Ev.pos (by omega) ?_)
  exact toG_l0 l hl l.length 0 _ (by omega) (by simp) (by simp)
theorem eqG_l0 (a : List IG) (hl : a.length ≤ 1048576) : ∀ (d i : Nat), i + d = a.length → Ev (fun k => laws_eqGuessS.l0 k a a i) true
  | 0, i, hi => by
    apply Ev.succ; simp only [laws_eqGuessS.l0]
    exact Ev.neg (by omega) (Ev.now _)
  | d + 1, i, hi => by
    have hlt : i < a.length := by omega
    apply Ev.succ; simp only [laws_eqGuessS.l0]
    rw [rdI a i hlt]
    refine Ev.pos (by omega) (Ev.pos (by omega) (Ev.pos (by omega) (Ev.bindc (x := true) (by unfold laws_eqGuess.f; simp) (Ev.pos rfl ?_))))
    rw [wrap_id (by omega) (by omega)]
    exact_mod_cast eqG_l0 a hl d (i + 1) (by omega)
theorem eqG_ev (a : List IG) (hl : a.length ≤ 1048576) : Ev (fun k => laws_eqGuessS.f k a a) true := by
  unfold laws_eqGuessS.f
  exact Ev.pos rfl (eqG_l0 a hl a.length 0 (by omega))
/-- Is it a guess beside pins so long? -/
def okG (n : Nat) (g : IG) : Bool := pinB (bl g.f0) && decide (g.f0.size = n) && (decide (0 ≤ g.f1) && decide (g.f1 ≤ n)) && (decide (0 ≤ g.f2) && decide (g.f2 ≤ n - g.f1))
def guessesB (l : List IG) : Bool := (decide (1 ≤ l.length) && decide (l.length ≤ 10)) && l.all (okG (rd_T51 l 0).f0.size)
theorem okG_spec (n : Nat) (hn : n ≤ 1048576) (g : IG) {R : Bool} {f : Nat → Option Bool} (h : Ev f R) :
    Ev (fun k => (spec_piPin.f k g.f0).bind fun t105 => (if t105 = true then (if (g.f0.size : Int) = (n : Int) then ((spec_l1In.f g.f1 0 (n : Int)).bind fun t106 => (if t106 = true then ((spec_l1In.f g.f2 0 (wrap64 ((n : Int) - g.f1))).bind fun t107 => (if t107 = true then f k else (some false))) else (some false))) else (some false)) else (some false))) (okG n g && R) := by
  unfold okG
  refine Ev.bind (piPin_ev g.f0) ?_
  cases h1 : pinB (bl g.f0) with
  | false => exact Ev.no (Ev.now _)
  | true =>
    refine Ev.yes ?_
    by_cases h2 : g.f0.size = n
    · refine Ev.pos (by omega) (Ev.bindc (l1In_eq _ _ _) ?_)
      rw [decide_eq_true h2]
      cases h3 : (decide (0 ≤ g.f1) && decide (g.f1 ≤ (n : Int))) with
      | false => exact Ev.no (Ev.now _)
      | true =>
        have hb : 0 ≤ g.f1 ∧ g.f1 ≤ n := by simpa using h3
        refine Ev.yes (Ev.bindc (l1In_eq _ _ _) ?_)
        rw [wrap_id (by omega) (by omega)]
        cases h4 : (decide (0 ≤ g.f2) && decide (g.f2 ≤ (n : Int) - g.f1)) with
        | false => exact Ev.no (Ev.now _)
        | true => exact Ev.yes (by simpa using h)
    · refine Ev.neg (by omega) ?_
      rw [decide_eq_false h2]
      exact Ev.now _
theorem piG_l0 (l : List IG) (hl : l.length ≤ 1048576) (n : Nat) (hn : n ≤ 1048576) (h0 : 0 < l.length → (rd_T51 l 0).f0.size = n) : ∀ (d i : Nat), i + d = l.length → Ev (fun k => spec_piGuesses.l0 k l l (l.length : Int) i) ((l.drop i).all (okG n))
  | 0, i, hi => by
    apply Ev.succ; simp only [spec_piGuesses.l0]
    refine Ev.neg (by omega) (Ev.const ?_)
    rw [List.drop_of_length_le (by omega)]; rfl
  | d + 1, i, hi => by
    have hlt : i < l.length := by omega
    apply Ev.succ; simp only [spec_piGuesses.l0]
    rw [rdI l i hlt, h0 (by omega)]
    refine Ev.pos (by omega) (Ev.pos (by omega) (Ev.pos (by omega) (Ev.pos (by omega) ?_)))
    rw [wrap_id (n := (i : Int) + 1) (by omega) (by omega), List.drop_eq_getElem_cons hlt, List.all_cons]
    have := piG_l0 l hl n hn h0 d (i + 1) (by omega)
    exact okG_spec n hn l[i] (by exact_mod_cast this)
theorem len_in (n : Nat) : (decide ((1 : Int) ≤ (n : Int)) && decide ((n : Int) ≤ 10)) = (decide (1 ≤ n) && decide (n ≤ 10)) := by
  congr 1 <;> (rw [decide_eq_decide]; omega)
theorem piGuesses_ev (l : List IG) (hl : l.length ≤ 1048576) (hs : ∀ g ∈ l, g.f0.size ≤ 1048576) : Ev (fun k => spec_piGuesses.f k l) (guessesB l) := by
  unfold spec_piGuesses.f guessesB
  refine Ev.bindc (l1In_eq _ _ _) ?_
  rw [len_in]
  cases h : (decide (1 ≤ l.length) && decide (l.length ≤ 10)) with
  | false => exact Ev.no (Ev.now _)
  | true =>
    refine Ev.yes ?_
    rw [Bool.true_and]
    have hp : 0 < l.length := by simp only [Bool.and_eq_true, decide_eq_true_eq] at h; omega
    have hb : (rd_T51 l 0).f0.size ≤ 1048576 := by
      have e := rdI l 0 hp
      rw [show ((0 : Nat) : Int) = 0 from rfl] at e
      rw [e]; exact hs _ (List.getElem_mem hp)
    exact piG_l0 l hl _ hb (fun _ => rfl) l.length 0 (by omega)
theorem clo_eq (l : List IG) (hp : 0 < l.length) (hb : (rd_T51 l 0).f0.size ≤ 1048576) (g : IG) (hg : g.f0.size ≤ 1048576) : impl_AreGuesses_1.f g.f0 g.f1 g.f2 l = some (!okG (rd_T51 l 0).f0.size g) := by
  unfold impl_AreGuesses_1.f okG
  rw [isPin_eq g.f0 (by omega)]
  generalize (rd_T51 l 0).f0.size = n at hb ⊢
  simp only [Option.bind_some]
  cases h1 : pinB (bl g.f0) with
  | false => simp
  | true =>
    rw [if_pos rfl, if_pos (by omega)]
    by_cases h2 : g.f0.size = n
    · rw [if_pos (by omega), in_eq, h2]
      simp only [Option.bind_some, decide_true, Bool.true_and]
      cases h3 : (decide (0 ≤ g.f1) && decide (g.f1 ≤ (n : Int))) with
      | false => simp
      | true =>
        have hb : 0 ≤ g.f1 ∧ g.f1 ≤ n := by simpa using h3
        rw [if_pos rfl, wrap_id (by omega) (by omega), in_eq]
        simp
    · rw [if_neg (by omega), decide_eq_false h2]
      simp
theorem idxG_l0 (l : List IG) (hl : l.length ≤ 1048576) (F : ByteArray → Int → Int → Option Bool) (b : IG → Bool) (hF : ∀ g ∈ l, F g.f0 g.f1 g.f2 = some (b g)) : ∀ (d i : Nat), i + d = l.length → ∃ r, Ev (fun k => impl_Guess_59.l0 k l F (l.length : Int) i) r ∧ (r ≥ 0 ↔ (l.drop i).any b = true)
  | 0, i, hi => by
    refine ⟨-1, ?_, ?_⟩
    · apply Ev.succ; simp only [impl_Guess_59.l0]; exact Ev.neg (by omega) (Ev.now _)
    · rw [List.drop_of_length_le (by omega)]; simp
  | d + 1, i, hi => by
    have hlt : i < l.length := by omega
    rw [List.drop_eq_getElem_cons hlt, List.any_cons]
    have hf := hF _ (List.getElem_mem hlt)
    cases hb : b l[i] with
    | true =>
      refine ⟨i, ?_, by simp⟩
      apply Ev.succ; simp only [impl_Guess_59.l0]
      rw [rdI l i hlt, hf, hb]
      exact Ev.pos (by omega) (Ev.pos (by omega) (Ev.pos (by omega) (Ev.bindc rfl (Ev.pos rfl (Ev.now _)))))
    | false =>
      obtain ⟨r, hr, h⟩ := idxG_l0 l hl F b hF d (i + 1) (by omega)
      refine ⟨r, ?_, by rw [h]; simp⟩
      apply Ev.succ; simp only [impl_Guess_59.l0]
      rw [rdI l i hlt, hf, hb]
      refine Ev.pos (by omega) (Ev.pos (by omega) (Ev.pos (by omega) (Ev.bindc rfl (Ev.no ?_))))
      rw [wrap_id (by omega) (by omega)]
      exact_mod_cast hr
theorem anyG_ev (l : List IG) (hl : l.length ≤ 1048576) (F : ByteArray → Int → Int → Option Bool) (b : IG → Bool) (hF : ∀ g ∈ l, F g.f0 g.f1 g.f2 = some (b g)) : Ev (fun k => impl_Guess_41.f k l F) (l.any b) := by
  obtain ⟨r, hr, h⟩ := idxG_l0 l hl F b hF l.length 0 (by omega)
  unfold impl_Guess_41.f impl_Guess_59.f
  refine Ev.bind hr (Ev.const ?_)
  rw [List.drop_zero] at h
  congr 1
  rw [Bool.eq_iff_iff, decide_eq_true_iff]; exact h
theorem areGuesses_ev (l : List IG) (hl : l.length ≤ 1048576) (hs : ∀ g ∈ l, g.f0.size ≤ 1048576) : Ev (fun k => impl_AreGuesses.f k l) (guessesB l) := by
  unfold impl_AreGuesses.f guessesB
  refine Ev.bindc (in_eq _ _ _) ?_
  rw [len_in]
  cases h : (decide (1 ≤ l.length) && decide (l.length ≤ 10)) with
  | false => exact Ev.no (Ev.now _)
  | true =>
    have hp : 0 < l.length := by simp only [Bool.and_eq_true, decide_eq_true_eq] at h; omega
    have hb : (rd_T51 l 0).f0.size ≤ 1048576 := by
      have e := rdI l 0 hp
      rw [show ((0 : Nat) : Int) = 0 from rfl] at e
      rw [e]; exact hs _ (List.getElem_mem hp)
    refine Ev.yes (Ev.bind (anyG_ev l hl _ _ (fun g hg => clo_eq l hp hb g (hs g hg))) (Ev.const ?_))
    rw [Bool.true_and, ← List.not_all_eq_any_not, Bool.not_not]
theorem mapG_sz {l : List LG} (hs : ∀ g ∈ l, g.f0.size ≤ 1048576) : ∀ g ∈ l.map toG, g.f0.size ≤ 1048576 := by
  intro g hg
  obtain ⟨x, hx, rfl⟩ := List.mem_map.1 hg
  exact hs x hx
end Go.Proofs.YtbjbbjkjkfofcaaDoor

/- FnExactAreGuesses: both sides say of every list the same, and it is left as it was: over the functions that the walk computes. -/
namespace Go.Proofs.YtbjbbjkjkfofcaaDoor
open Go.RowKit Go.Proofs.YtbjbbjkjkfofcaaDoor.P Go.Proofs.YtbjbbjkjkfofcaaDoorW.PrintWords
theorem pure_FnExactAreGuesses : PureFnExactAreGuesses := by
  intro l hl
  obtain ⟨r, hr, hb⟩ := szG_ev l hl.1 (fun g hg => (hl.2 g hg).1)
  refine Ev.rounds (g := fun k => laws_FnExactAreGuesses.f k l) ?_
  unfold laws_FnExactAreGuesses.f
  refine Ev.bind hr ?_
  by_cases c : r < 0
  · exact Ev.pos c (Ev.now _)
  · obtain ⟨h1, h2⟩ := hb c
    have hm := mapG_sz h2
    have hl' : (l.map toG).length ≤ 1048576 := by simpa using h1
    refine Ev.neg c (Ev.bind (toG_ev l h1) ?_)
    simp only [spec_AreGuesses.f]
    refine Ev.bind (Ev.bind (piGuesses_ev _ hl' hm) (Ev.now _)) (Ev.bind (toG_ev l h1) (Ev.bind (areGuesses_ev _ hl' hm) ?_))
    refine Ev.neg (by simp) (Ev.bind (toG_ev l h1) (Ev.bind (eqG_ev _ hl') ?_))
    exact Ev.pos rfl (Ev.now _)
end Go.Proofs.YtbjbbjkjkfofcaaDoor

/- FnExactAreGuessesCardSaid: the law 'FnExactAreGuesses' answers true for every input, and leaves its arguments as they were. The row and its tied card, over the walk of its calls and the pure statement. -/
namespace Go.Proofs.YtbjbbjkjkfofcaaDoor.fnExactAreGuesses
open Go.ChangeShapes Go.WideShapes Go.ChangeAt Go.RowKit Go.Proofs.YtbjbbjkjkfofcaaDoor.P Go.Proofs.YtbjbbjkjkfofcaaDoorW.PrintWords
open Go.ChangeMaps (open_string shut_string)
set_option linter.unusedVariables false
theorem own : ownKnob Tryd.prog.godebug = none := by kernel_rfl
theorem laidOut : laidOutB Tryd.prog = true := by kernel_rfl
/-- What the row lists of package-level variables. -/
noncomputable def laidList : List (String × DataW Unit) := [("unicode/utf8.acceptRanges", Rows.laid_unicode_utf8_acceptRanges), ("unicode/utf8.first", Rows.laid_unicode_utf8_first)]
/-- A world that meets it: the settled one, the listed variables laid. -/
noncomputable def laidWorld (os : Os) : World :=
  let w0 := World.holding Tryd.prog os ⟨#[], #[], []⟩
  { w0 with heap := ((w0.heap.modify 2 fun o => match o with | .cells _ t frozen => .cells (litsOf Rows.laid_unicode_utf8_acceptRanges).toArray t frozen | o => o).modify 1 fun o => match o with | .cells _ t frozen => .cells (litsOf Rows.laid_unicode_utf8_first).toArray t frozen | o => o) }
theorem laidWorld_met (os : Os) (args : Array Value) : laidMetH Tryd.prog laidList ((laidWorld os).forCall (fun _ _ => 0) ⟨#[], args, []⟩).memory :=
  laidMetH_of_parts3 (fuel := 8) (laidMet_of_run' 8 (by kernel_rfl) (by kernel_rfl)) (by kernel_rfl) (by kernel_rfl)
set_option maxRecDepth 100000 in
theorem lifted (os : Os) (started : os.Started) (H : Type) (enc : TypeId × Value → H) :
    ReturnsInHanded {} Tryd.checked os 4 .any (fun w args => (Rows.fnExactAreGuessesSpec.pre enc Tryd.prog Tryd.f4 [] false w args ∧ laidMetH Tryd.prog laidList w) ∧ sizedMet enc Tryd.prog Tryd.f4 (OpenSpec.ofChange Rows.fnExactAreGuessesSpec) false w args)
      (Rows.fnExactAreGuessesSpec.post enc Tryd.prog Tryd.f4 false true false false) := by
  refine returnsInHanded_of_change_and (C := Tryd.checked) (X := fun w _ => laidMetH Tryd.prog laidList w) (fun _ _ _ hh h => h.of_heap hh) own started (by kernel_rfl) Tryd.func4
    (ChangeSpec.witness_at (enc := enc) (C := Tryd.checked) (os := os) (X := fun w _ => laidMetH Tryd.prog laidList w) false (laidWorld os) #[.slice none 0 0] 8 rfl (by kernel_rfl) (by kernel_rfl) (by kernel_rfl) (by kernel_rfl) (by kernel_rfl) (laidWorld_met os _)) ?_
  intro W base args ds gs before hval0 hW _ _ hL _
  have hval : ∀ (j : Nat) t v, Tryd.f4.params[j]? = some t → args[j]? = some v → Value.okWide Tryd.prog W .any base t v := hval0
  have hW' := hW
  obtain ⟨p, q, hA0, hV, rfl, hfz, hnd⟩ := hW
  have hA : DataW.TrodAll enc Tryd.prog W 0 (fun _ => true) true Tryd.f4.params.toList args.toList ds p := hA0
  rw [Tryd.params4] at hA hval
  obtain ⟨v0, vs0, d0, ds0, p0, q0, hargs, rfl, rfl, h0, r0⟩ := trodAll_cons hA
  obtain ⟨rfl, rfl, rfl⟩ := trodAll_nil r0
  obtain rfl : args = #[v0] := by cases args; simp_all
  obtain ⟨rfl, rfl⟩ := trodVars_none hV
  have k0 := h0
  have lt0 : ∀ x ∈ p0, x.block < W.heap.size := by obtain ⟨m, hm⟩ := k0; exact DataW.trod_lt m _ _ _ hm
  obtain ⟨a0, len0, cap0, rfl⟩ := okWide_slice Tryd.underlying25 (hval 0 25 v0 rfl rfl)
  obtain ⟨fu0, hf0⟩ := h0
  have hg0 : DataW.trod enc Tryd.prog W 0 (fun _ => true) true fu0 25 [.slice a0 len0 cap0] = some (d0, p0) := by simpa [Value.cells] using hf0
  clear hf0
  obtain ⟨vv0, hvv0⟩ : ∃ v, v = Value.slice a0 len0 cap0 := ⟨_, rfl⟩
  rw [← hvv0] at hg0 hW' k0 ⊢
  obtain ⟨A0, c0, l0, rfl, hc0, hw0, hr0⟩ := read_s50 Tryd.underlying25 hg0
  clear hA0 hval0
  obtain ⟨k, hk⟩ := pure_FnExactAreGuesses l0 ⟨hr0.2.1, hw0⟩
  refine (laws_FnExactAreGuesses.calls k A0 c0 l0 true W hr0 hc0 hk).mono fun e W' ⟨he, bel0⟩ => ?_
  have bel : Below W.heap.size W W' := bel0
  subst he
  exact ⟨_, rfl, _, _, _, [], _, [], hW', trodAll_mk1 (shut_bool Tryd.underlying4 _), (trodAll_cons_mk (Below.trod laidOut (by kernel_rfl) (of_decide_eq_true (by kernel_rfl)) k0 bel lt0) trodAll_mk0), rfl, bel.frame _, fun h => by cases h⟩
theorem over : Rows.fnExactAreGuessesRow.holds Tryd.pinned (OpenSpec.ofChange Rows.fnExactAreGuessesSpec) :=
  OpenClaim.holds_of_wide 4 Tryd.f4 rfl rfl rfl rfl rfl rfl rfl ⟨rfl, rfl, rfl, rfl, rfl⟩ rfl rfl rfl rfl rfl (by kernel_rfl) Tryd.func4 (by kernel_rfl)
    (of_decide_eq_true (by kernel_rfl)) (by unfold Func.isWrapper; first | (rw [if_pos (by decide +kernel)]; kernel_rfl) | (rw [if_neg (by decide +kernel)]; exact ⟨rfl, rfl⟩))
    (fun os started H enc _ => lifted os started H enc)
theorem proved : Rows.FnExactAreGuessesSaid := over
theorem card : Rows.FnExactAreGuessesCardSaid :=
  Claim7.holds_tied_plain_at .later [] [.data, .pinned] true (true, "3d3db6fa9e3bb26343dad47200c30faa86020db0df42be240f29cefdc08c5119") false
    proved (fun _ h => by cases h) (by kernel_rfl) (fun _ h => by cases h) fnExactAreGuesses_row_tie rfl ⟨rfl, rfl⟩ (by kernel_rfl) rfl
    (fun f fn hf hfn => by
      obtain rfl : f = 4 := Option.some.inj ((show Tryd.prog.funcNamed "loop.example/g01350/laws.FnExactAreGuesses" = some 4 by kernel_rfl).symm.trans hf) |>.symm
      obtain rfl : fn = Tryd.f4 := (Option.some.inj (Tryd.func4.symm.trans hfn)).symm
      exact ⟨by kernel_rfl, fun j t ht => by
        rw [Tryd.params4] at ht
        have hm : t ∈ #[25] := Array.mem_of_getElem? ht
        have hm : t ∈ [25] := by simpa using hm
        have hall : ([25].all fun u => !Tryd.prog.wantsStandIn u) = true := by kernel_rfl
        exact (show Tryd.prog.wantsStandIn t = false by simpa using List.all_eq_true.1 hall t hm)⟩)
    (by kernel_rfl)
#print axioms card
end Go.Proofs.YtbjbbjkjkfofcaaDoor.fnExactAreGuesses
namespace Go.Proofs.YtbjbbjkjkfofcaaDoor
theorem fnExactAreGuesses_holds : Rows.FnExactAreGuessesCardSaid := fnExactAreGuesses.card
end Go.Proofs.YtbjbbjkjkfofcaaDoor

