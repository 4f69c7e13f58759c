/- Part 2 of 2 of the proof of: FnExactLongestOnceCardSaid: the law 'FnExactLongestOnce' answers true for every input, and leaves its arguments as they were. The row and its tied card, over the walk of its calls and the pure statement. -/
import Derived.Test.YtgmdahmfmpdegaaDoorMFnExactLongestOnce1
import Derived.Test.YtgmdahmfmpdegaaDoorWKept
import Derived.Test.YtgmdahmfmpdegaaDoorWApart
import Derived.Shelf.Abstract
import Derived.Test.YtgmdahmfmpdegaaDoorWWords
import Derived.Test.YtgmdahmfmpdegaaDoorWMore
import Derived.Laws.Strings
import Derived.Lib.SlTrimSet
import Derived.Lib.Bytealg
import Derived.WalkKit
import Derived.ProofKit
import Derived.OpenShut
import Derived.ShutString
import Derived.ChangeOld
import Derived.Below
import Derived.SizedLaws
import Derived.ChangeSlices
import Derived.SliceStrings
import Derived.Lib.SmallJoins
import Derived.LaidLaws
import Derived.LaidHandle
import Derived.LaidMore
import Derived.Test.YtgmdahmfmpdegaaDoorRows
import Derived.Test.YtgmdahmfmpdegaaDoorCards
import Derived.Test.YtgmdahmfmpdegaaDoorTie
import Derived.Handed
import Derived.SevenTiedAt
import Derived.Stop.Joined
-- printed by xprint.py
namespace Go.Proofs.YtgmdahmfmpdegaaDoor.P
open Go.RowKit Go.Proofs.YtgmdahmfmpdegaaDoorW.PrintWords Go.Proofs.YtgmdahmfmpdegaaDoorW.PrintLast Go.Proofs.YtgmdahmfmpdegaaDoorW.PrintMore
attribute [local go_sem] max2_int min2_int max_two min_two max_three min_three max_four min_four   -- for this text's walks alone
set_option linter.unusedVariables false
set_option linter.unusedSimpArgs false

/-! ### impl_LongestOnce: function 8 -/
section
variable {α : Type} (I : World → α → Prop) (next : α → List Int → α) (G b B : Nat) (w0 : World)
set_option maxHeartbeats 8000000 in
set_option maxRecDepth 100000 in
theorem onc1_calls (hBs : B ≤ w0.heap.size) (eg : ∀ args w, (callFunc G args).run Tryd.prog w = .ok (.enter G args) w)
  (hI : ∀ W W' σ, I W σ → Kept W W' (fun _ => False) → I W' σ) (hIb : ∀ W σ, I W σ → b < W.heap.size)
  (hE : ∀ (W : World) (A : Option Addr) (c : Nat) (now : List Int) (σ : α), Below B w0 W → I W σ → RowK b W A now → now.length ≤ c → Calls Tryd.prog G #[.slice A now.length c, .pointer (some ⟨b, 0, none⟩)] W fun e W' => e = .returned (.tuple #[]) ∧ Below B w0 W' ∧ I W' (next σ now) ∧ Kept W W' (fun k => k = b)) :
  ∀ (k : Nat) (list : List (List Int)) (now : List Int) (σ r : α) (A0 : Option Addr) (c0 : Nat) (A : Option Addr) (c : Nat) (W : World), Below B w0 W → I W σ → TabK b W A0 list → list.length ≤ c0 → RowK b W A now → now.length ≤ c → oncesF next k list now σ = some r →
   Calls Tryd.prog 15 #[.slice A0 list.length c0, .slice A now.length c, .func (.func G) #[] #[.pointer (some ⟨b, 0, none⟩)]] W fun e W' => e = .returned (.tuple #[]) ∧ Below B w0 W' ∧ I W' r ∧ Kept W W' (fun k => k = b) := by
 intro k
 induction k with
 | zero => intro list now σ r A0 c0 A c W _ _ _ _ _ _ h; cases h
 | succ k ih =>
  intro list now σ r A0 c0 A c W hB hI0 hT hc0 hN hc h
  unfold oncesF at h
  split at h
  ·
   rename_i hcond
   obtain ⟨h1, h2, h3, h4⟩ := hcond
   have hw1 : wrap64 ((now.length : Int) - 1) = (now.length : Int) - 1 := IntWalk.wrap64_in _ ⟨by omega, by omega⟩
   have hcall := hE W A c now σ hB hI0 hN hc
   obtain ⟨ad0, Ai, ci, hA0, hcell, hci, hRow⟩ := hT (lastI now).toNat (by omega)
   subst hA0
   obtain ⟨row, hrow⟩ : ∃ row : List Int, row = list.getD (lastI now).toNat [] := ⟨_, rfl⟩
   rw [← hrow] at h hcell hci hRow
   have hrl : row.length ≤ 9223372036854775807 := (hRow W (keptO_refl _ _)).2.1
   have HH := Aside0.mk h
   have IH := Aside0.mk ih
   have HE := Aside0.mk hE
   have HI := Aside0.mk hI
   have HIb := Aside0.mk hIb
   have HT := Aside0.mk hT
   have HN := Aside0.mk hN
   have HR := Aside0.mk hRow
   have HC := Aside0.mk hcell
   have HS := Aside0.mk (And.intro hBs (And.intro hc0 (And.intro hc hci)))
   have HL := Aside0.mk (And.intro h1 (And.intro h2 hrl))
   have HW := Aside0.mk hw1
   have HD := Aside0.mk (And.intro h3 h4)
   have p1 : (0 ≤ wrap64 ((now.length : Int) - 1)) = True := eq_true (by omega)
   have q1 : (wrap64 ((now.length : Int) - 1) < (now.length : Int)) = True := eq_true (by omega)
   have p2 : (0 ≤ lastI now) = True := eq_true (by omega)
   have q2 : (lastI now < (list.length : Int)) = True := eq_true (by omega)
   clear ih hE hI hIb hB hI0 hT hc0 hN hc h h1 h2 h3 h4 hw1 hcell hRow hci hrl hBs hrow
   go_enter Tryd.func15, Tryd.ntmps15
   go_wp2_with fail
   refine hcall.mono ?_
   rintro e w1 ⟨rfl, b1_, b2_, b3_⟩
   have H1 := Aside0.mk (And.intro b1_ (And.intro b2_ b3_))
   obtain ⟨adn, hAn, hxn⟩ := Kd.at_int (HN.out w1 b3_) (wrap64 ((now.length : Int) - 1)) (of_eq_true p1) (of_eq_true q1)
   subst hAn
   change w1.cell? _ = some (.int .i64 (lastI now)) at hxn
   have hxt := HC.out w1 b3_
   clear b1_ b2_ b3_ hcall
   go_wp2
   clear hxn hxt p1 q1 p2 q2
   go_loopg [21] row.length (fun gg v21 w' => ∃ (x : Int), v21 = .int .i64 x ∧ Aside0 (∃ (ii : Nat) (σ' : α), x = ii ∧ ii ≤ row.length ∧ row.length - ii ≤ gg ∧ Below B w0 w' ∧ I w' σ' ∧ Kept W w' (fun k => k = b) ∧ loopO k (fun p s => oncesF next k list p s) now (row.drop ii) σ' = some r))
   case atStart => exact ⟨0, rfl, ⟨0, next σ now, rfl, Nat.zero_le _, by omega, H1.out.1, H1.out.2.1, H1.out.2.2, by simpa using HH.out⟩⟩
   case round =>
    obtain ⟨x, rfl, ⟨ii, σ', hx, k1, k2, k3, k4, k5, k6⟩⟩ := hrel
    by_cases hlt : ii < row.length
    ·
     obtain ⟨y, hy1, hy2⟩ : ∃ y, row.drop ii = y :: row.drop (ii + 1) ∧ rd row x = y := ⟨row[ii], List.drop_eq_getElem_cons hlt, by rw [hx]; unfold rd; rw [Int.toNat_natCast, List.getD_eq_getElem?_getD, List.getElem?_eq_getElem hlt]; rfl⟩
     rw [hy1] at k6
     unfold loopO at k6
     obtain ⟨t, ht, k6⟩ := Option.bind_eq_some_iff.mp k6
     obtain ⟨adr, hAr, hxr⟩ := Kd.at_int (HR.out wr k5) x (by omega) (by omega)
     subst hAr
     rw [hy2] at hxr
     clear hy1 hy2
     have c3 : decide (x < (row.length : Int)) = true := decide_eq_true (by omega)
     have p5 : (0 ≤ x) = True := eq_true (by omega)
     have q5 : (x < (row.length : Int)) = True := eq_true (by omega)
     have e1 : wrap64 (x + 1) = ((ii + 1 : Nat) : Int) := by rw [IntWalk.wrap64_in _ ⟨by omega, by have := HL.out.2.2; omega⟩]; omega
     have E1 := Aside0.mk e1
     have KK := Aside0.mk (And.intro k2 hlt)
     have KB := Aside0.mk (And.intro k3 (And.intro k4 k5))
     have K6 := Aside0.mk k6
     have HTT := Aside0.mk ht
     clear hx k1 k2 k3 k4 k5 k6 hlt e1 ht
     cases t with
     | true =>
      have k6 := K6.out
      rw [if_pos rfl] at k6
      have K7 := Aside0.mk k6
      clear k6 K6
      go_wp2_with (go_at_call 28; refine (slices_Contains_int_int.calls k (some adn) c now y true _ (HN.out _ KB.out.2.2) HS.out.2.2.1 HTT.out).mono ?_; rintro e w2 ⟨rfl, ⟨nd, rfl⟩⟩; have hb_ := pw_below_drewN (Below.refl wr.heap.size wr) nd; have KC := Aside0.mk (And.intro (KB.out.1.trans (hb_.mono (Nat.le_trans HS.out.1 KB.out.1.size))) (And.intro (HI.out _ _ _ KB.out.2.1 (Kept.of_below hb_ _)) (keptO_trans KB.out.2.2 (Kept.of_below hb_ _)))); clear hb_; generalize wr.drewN nd = w2 at KC ⊢)
      go_roundg (row.length - (ii + 1))
      case measure => have := KK.out; omega
      case rel => exact ⟨_, rfl, ⟨ii + 1, σ', E1.out, by have := KK.out; omega, Nat.le_refl _, KC.out.1, KC.out.2.1, KC.out.2.2, K7.out⟩⟩
     | false =>
      have k6 := K6.out
      rw [if_neg (by decide)] at k6
      obtain ⟨s, hs, k6⟩ := Option.bind_eq_some_iff.mp k6
      obtain ⟨nw, hnw⟩ : ∃ nw : List Int, nw = now ++ [y] := ⟨_, rfl⟩
      have hs_ : oncesF next k list nw σ' = some s := by rw [hnw]; exact hs
      have K7 := Aside0.mk k6
      have HS7 := Aside0.mk hs_
      have NW := Aside0.mk hnw
      clear hs_ hnw
      clear k6 K6 hs
      go_wp2_with (first | (go_at_call 28; refine (slices_Contains_int_int.calls k (some adn) c now y false _ (HN.out _ KB.out.2.2) HS.out.2.2.1 HTT.out).mono ?_; rintro e w2 ⟨rfl, ⟨nd, rfl⟩⟩; have hb_ := pw_below_drewN (Below.refl wr.heap.size wr) nd; have KC := Aside0.mk (And.intro (KB.out.1.trans (hb_.mono (Nat.le_trans HS.out.1 KB.out.1.size))) (And.intro (HI.out _ _ _ KB.out.2.1 (Kept.of_below hb_ _)) (keptO_trans KB.out.2.2 (Kept.of_below hb_ _)))); clear hb_; generalize wr.drewN nd = w2 at KC ⊢) | (go_at_call 29; refine (clip_calls (some adn) now.length c HS.out.2.2.1 (by have := HL.out; omega) _).mono ?_; rintro e w3 ⟨rfl, rfl⟩) | ((with_reducible refine gate_builtin (b := .append) (xs := #[.tmp 31, .tmp 33]) rfl ?_); at_builtin; obtain ⟨i3, hi3, hz3⟩ := Option.map_eq_some_iff.1 info3; obtain ⟨hz0, hz1, hz2⟩ : i3.zero = some (.int .i64 0) ∧ i3.size = 1 ∧ i3.bytes = 8 := (by simpa using hz3); refine wpList_append_grows _ rfl (.tmp 31) (.tmp 33) 35 rfl 3 i3 (.int .i64 0) 1 8 Tryd.underlying35 hi3 hz0 hz1 hz2 rfl (by decide) (some adn) now.length now.length (encs (Value.int .i64) now) rfl (fun e_ => by cases e_) (by rw [encs_length]; omega) ?olds ⟨w3.heap.size, 0, none⟩ 1 1 [.int .i64 y] rfl rfl ?cell ?one (by omega) ?m1 ?m2 ?_; (case olds => (rintro bb eb; cases eb; exact olds_of (HN.out _ (Kept.alloc KC.out.2.2 _)))); (case cell => (intro j u hu; cases j with | zero => (cases hu; rw [Addr.add_lit]; exact (blk_cell (blk_new _ _) 0).trans rfl) | succ j => cases hu)); (case one => (intro u hu; rw [List.mem_singleton.1 hu]; rfl)); (case m1 => (have := HL.out; simp only [maxLen]; omega)); (case m2 => (have := HL.out; omega)); intro v4 w4 ho4 hg4; have hk4 : Kept w3 w4 (fun _ => False) := keptO_trans (Kept.alloc (keptO_refl w3 _) _) ⟨hg4.size, fun i hi _ => hg4.block i hi (by simp)⟩; have hb4 := (KC.out.1.alloc (Nat.le_trans HS.out.1 KC.out.1.size) (.cells #[.int .i64 y] 3)).grown hg4 (Nat.le_trans HS.out.1 (KC.out.1.alloc (Nat.le_trans HS.out.1 KC.out.1.size) (.cells #[.int .i64 y] 3)).size) (fun k_ hk_ => by cases hk_); have hR4 : Kd.R (Kd.int .i64) 3 w4 0 (fun k_ => k_ ≠ b) v4 nw := (by rw [NW.out]; exact Kd.R_of_own (by rw [List.length_append, encs_append]; exact own_weaken ho4 (Nat.zero_le _)) (fun k_ hk_ => by obtain ⟨g_, c_, he_, hl_, _⟩ := ho4.form (by omega); rw [he_] at hk_; have hlt_ := HIb.out _ _ KC.out.2.1; have : g_ = k_ := (by simpa [Value.ownBlock] using hk_); subst this; have hsz_ : w3.heap.size ≤ (w3.alloc (.cells #[.int .i64 y] 3)).heap.size := (by simp); omega)); obtain ⟨A4, c4, he4⟩ := Kd.R_slice hR4; subst he4; have hr4 := rowK_of hR4 (fun k_ hk_ => hk_); have K4 := Aside0.mk (And.intro hb4 (And.intro (HI.out _ _ _ KC.out.2.1 hk4) (And.intro (keptO_trans KC.out.2.2 (keptO_none hk4)) (And.intro hr4.2.1 hr4.2.2)))); clear hk4 hb4 hR4 hr4 ho4 hg4 hi3 hz3 hz0 hz1 hz2) | (go_at_call 15; refine (IH.out list nw σ' s (some ad0) c0 A4 c4 w4 K4.out.1 K4.out.2.1 (HT.out.go K4.out.2.2.1) HS.out.2.1 K4.out.2.2.2.2 K4.out.2.2.2.1 HS7.out).mono ?_; rintro e w5 ⟨rfl, h51, h52, h53⟩; have K5 := Aside0.mk (And.intro h51 (And.intro h52 (keptO_trans K4.out.2.2.1 h53))); clear h51 h52 h53))
      go_roundg (row.length - (ii + 1))
      case measure => have := KK.out; omega
      case rel => exact ⟨_, rfl, ⟨ii + 1, s, E1.out, by have := KK.out; omega, Nat.le_refl _, K5.out.1, K5.out.2.1, K5.out.2.2, K7.out⟩⟩
    ·
     have c3 : decide (x < (row.length : Int)) = false := decide_eq_false (by omega)
     rw [List.drop_of_length_le (by omega)] at k6
     obtain rfl := Option.some.inj k6
     have KB := Aside0.mk (And.intro k3 (And.intro k4 k5))
     clear hx k1 k2 k3 k4 k5 k6 hlt
     go_wp2
     first | go_end0 | ((try simp only [Exit.inBlock, Exit.then]); refine bodyPost_ret (results_none rfl _ _ _) rfl ?_)
     exact ⟨rfl, KB.out⟩
  ·
   cases h
end
/-! LongestOnce. -/
def longNext (best now : List Int) : List Int := if best.length < now.length then now else best
def impl_LongestOnce.f (k : Nat) (a0 : ByteArray) (a1 : ByteArray) : Option (ByteArray × Bool) := (impl_isPiece.f a0).bind fun t => if t = true then (impl_isDigit.f a1).bind fun u => (if u = true then (if 0 < a1.size then (impl_moves.f k a0).bind fun l => (impl_digit.f (bt a1 0)).bind fun d => (oncesF longNext k l [d] []).bind fun q => (impl_digitText.f k q).map fun r => (r, true) else none) else some ((⟨#[]⟩ : ByteArray), false)) else some ((⟨#[]⟩ : ByteArray), false)
theorem impl_LongestOnce.mono : ∀ y0 y1 k, LeO (impl_LongestOnce.f k y0 y1) (impl_LongestOnce.f (k + 1) y0 y1) := by
 intro y0 y1 k
 unfold impl_LongestOnce.f
 refine LeO.bind (LeO.refl _) (fun t => LeO.ite (LeO.bind (LeO.refl _) (fun u => LeO.ite (LeO.ite (LeO.bind (impl_moves.mono _ _) (fun l => LeO.bind (LeO.refl _) (fun d => LeO.bind (oncesF_mono _ _ _ _ _) (fun q => ?_)))) (LeO.refl _)) (LeO.refl _))) (LeO.refl _))
 intro r h
 obtain ⟨z, hz, rfl⟩ := Option.map_eq_some_iff.1 h
 rw [impl_digitText.mono _ _ z hz]; rfl
/-- The longest walk's row. -/
def LongC (b : Nat) (W : World) (xs : List Int) : Prop := ∃ (A : Option Addr) (c : Nat), W.heap[b]? = some (.cells #[.slice A xs.length c] 35 (0, 0)) ∧ xs.length ≤ c ∧ RowK b W A xs
set_option maxHeartbeats 8000000 in
set_option maxRecDepth 100000 in
theorem longClo_calls (b B : Nat) (w0 : World) (hBb : B ≤ b) (W : World) (A : Option Addr) (c : Nat) (now best : List Int) (hB : Below B w0 W) (hI : LongC b W best) (hR : RowK b W A now) (hc : now.length ≤ c) :
  Calls Tryd.prog 20 #[.slice A now.length c, .pointer (some ⟨b, 0, none⟩)] W fun e W' => e = .returned (.tuple #[]) ∧ Below B w0 W' ∧ LongC b W' (longNext best now) ∧ Kept W W' (fun k => k = b) := by
 have HI := Aside0.mk hI
 obtain ⟨Ab, cb, hh, hlb, hRb⟩ := hI
 have hc2 : W.cell? ⟨b, 0, none⟩ = some (.slice Ab best.length cb) := (blk_cell hh 0).trans rfl
 have hf : W.frozen? ⟨b, 0, none⟩ = false := by unfold World.frozen?; simp only [hh]; rfl
 have HH := Aside0.mk (And.intro hB (And.intro hh (And.intro hc hR)))
 clear hB hR hh hlb hRb hc
 by_cases hl : best.length < now.length
 ·
  have hl0 : decide ((now.length : Int) > (best.length : Int)) = true := decide_eq_true (by omega)
  have hl1 : decide (best.length < now.length) = true := decide_eq_true hl
  have e1 : longNext best now = now := if_pos hl
  have E1 := Aside0.mk e1
  clear hl e1
  go_enter Tryd.func20, Tryd.ntmps20
  go_wp2
  first | go_end0 | ((try simp only [Exit.inBlock, Exit.then]); refine bodyPost_ret (results_none rfl _ _ _) rfl ?_)
  rw [E1.out]
  have hk : Kept W (W.setCell ⟨b, 0, none⟩ (.slice A now.length c)) (fun k => k = b) := ⟨((Below.refl 0 W).setCell (p := ⟨b, 0, none⟩) (Nat.zero_le _) _).size, fun i hi hn => Below.heap_setCell _ _ _ _ hn⟩
  exact ⟨rfl, HH.out.1.setCell (p := ⟨b, 0, none⟩) hBb _, ⟨A, c, blk_put (cs := #[.slice Ab best.length cb]) HH.out.2.1 0 _ rfl, HH.out.2.2.1, HH.out.2.2.2.go hk⟩, hk⟩
 ·
  have hl0 : decide ((now.length : Int) > (best.length : Int)) = false := decide_eq_false (by omega)
  have hl1 : decide (best.length < now.length) = false := decide_eq_false hl
  have e1 : longNext best now = best := if_neg hl
  have E1 := Aside0.mk e1
  clear hl e1
  go_enter Tryd.func20, Tryd.ntmps20
  go_wp2
  first | go_end0 | ((try simp only [Exit.inBlock, Exit.then]); refine bodyPost_ret (results_none rfl _ _ _) rfl ?_)
  rw [E1.out]
  exact ⟨rfl, HH.out.1, HI.out, keptO_refl _ _⟩
set_option maxHeartbeats 8000000 in
set_option maxRecDepth 100000 in
theorem impl_LongestOnce.calls (k : Nat) (a0 : ByteArray) (a1 : ByteArray) (r1 : ByteArray) (r2 : Bool) (w : World) (h : impl_LongestOnce.f k a0 a1 = some (r1, r2)) :
  Calls Tryd.prog 8 #[.string a0, .string a1] w fun e w' => e = .returned (.tuple #[.string r1, .bool r2]) ∧ Below w.heap.size w w' := by
 unfold impl_LongestOnce.f at h
 obtain ⟨t, ht, h⟩ := Option.bind_eq_some_iff.mp h
 have HP := Aside0.mk (fun W => impl_isPiece.calls a0 t W ht)
 clear ht
 cases t with
 | false =>
  rw [if_neg (by decide)] at h
  obtain ⟨rfl, rfl⟩ := Prod.mk.inj (Option.some.inj h)
  clear h
  go_enter Tryd.func8, Tryd.ntmps8
  go_wp2_with (go_at_call 12; refine (HP.out _).mono ?_; rintro e w2 ⟨rfl, ⟨nd, rfl⟩⟩; have B2 := Aside0.mk (pw_below_drewN (Below.refl w.heap.size w) nd); generalize w.drewN nd = w2 at B2 ⊢)
  go_ret2
  exact ⟨rfl, B2.out⟩
 | true =>
  rw [if_pos rfl] at h
  obtain ⟨u, hu, h⟩ := Option.bind_eq_some_iff.mp h
  have HD := Aside0.mk (fun W => impl_isDigit.calls a1 u W hu)
  clear hu
  cases u with
  | false =>
   rw [if_neg (by decide)] at h
   obtain ⟨rfl, rfl⟩ := Prod.mk.inj (Option.some.inj h)
   clear h
   go_enter Tryd.func8, Tryd.ntmps8
   go_wp2_with (first | (go_at_call 12; refine (HP.out _).mono ?_; rintro e w2 ⟨rfl, ⟨nd, rfl⟩⟩; have B2 := Aside0.mk (pw_below_drewN (Below.refl w.heap.size w) nd); generalize w.drewN nd = w2 at B2 ⊢) | (go_at_call 13; refine (HD.out _).mono ?_; rintro e w3 ⟨rfl, hb_⟩; have B3 := Aside0.mk (B2.out.trans (hb_.mono B2.out.size)); clear hb_))
   go_ret2
   exact ⟨rfl, B3.out⟩
  | true =>
   rw [if_pos rfl] at h
   split at h
   ·
    rename_i hsz
    obtain ⟨l, hl, h⟩ := Option.bind_eq_some_iff.mp h
    obtain ⟨d, hd, h⟩ := Option.bind_eq_some_iff.mp h
    obtain ⟨q, hq, h⟩ := Option.bind_eq_some_iff.mp h
    obtain ⟨s, hs, hr⟩ := Option.map_eq_some_iff.1 h
    obtain ⟨rfl, rfl⟩ := Prod.mk.inj hr
    have HM := Aside0.mk (fun W => impl_moves.calls k a0 l W hl)
    have HG := Aside0.mk (fun W => impl_digit.calls (bt a1 0) d W hd)
    have HO := Aside0.mk hq
    have HS := Aside0.mk hs
    have hx0 : ∀ h_ : 0 < a1.size, (((a1[0]'h_).toNat : Nat) : Int) = bt a1 0 := fun h_ => bt_at a1 0 h_
    have q0 : (0 < a1.size) = True := eq_true hsz
    have q1 : ((0 : Int) < (a1.size : Int)) = True := eq_true (by omega)
    have eg : ∀ args w, (callFunc 20 args).run Tryd.prog w = .ok (.enter 20 args) w := enters_of Tryd.func20 (by kernel_rfl) rfl
    clear hl hd h hq hr hs hsz
    go_enter Tryd.func8, Tryd.ntmps8
    go_wp2_with (first | (go_at_call 12; refine (HP.out _).mono ?_; rintro e w2 ⟨rfl, ⟨nd, rfl⟩⟩; have B2 := Aside0.mk (pw_below_drewN (Below.refl w.heap.size w) nd); generalize w.drewN nd = w2 at B2 ⊢) | (go_at_call 13; refine (HD.out _).mono ?_; rintro e w3 ⟨rfl, hb_⟩; have B3 := Aside0.mk (B2.out.trans (hb_.mono B2.out.size)); clear hb_) | ((with_reducible refine gate_dst (N := 15) rfl ?_); refine Kd.R_lit (Kd.int .i64) _ 3 ?hg (N := 15) ?hd (xs := ([] : List Int)) (inner := []) (ok := fun _ => True) (okp := fun _ => False) ?hr ?hp (fun _ hk => hk.elim) trivial (Below.refl _ _) (Nat.le_refl _) (by simp) ?_; (case hd => rfl); (case hg => rfl); (case hr => first | (go_simp; done) | (go_simp; rfl)); (case hp => exact (Reps.none _ _)); intro v15 w4 ho4 hb_ hg_ hnew_; clear hg_ hnew_; obtain ⟨A15, c15, he_⟩ := Kd.R_slice ho4; have he2_ : v15 = .slice A15 0 c15 := he_; subst he2_; have S4 := Aside0.mk (And.intro (B3.out.trans (hb_.mono B3.out.size)) ho4); clear hb_ ho4 he_) | ((with_reducible refine gate_dst (N := 6) rfl ?_); refine box_event ?hg (N := 6) ?hd (cs := #[.slice none 0 0]) (t := 35) ?hr ?_; (case hd => rfl); (case hg => rfl); (case hr => first | (go_simp; done) | (go_simp; rfl)); intro g6 hg6 w5 hbox hb_; have hc5 : w5.cell? ⟨g6, 0, none⟩ = some (.slice none 0 0) := (blk_cell hbox 0).trans rfl; have hf5 : w5.frozen? ⟨g6, 0, none⟩ = false := (by unfold World.frozen?; simp only [hbox]; rfl); have R5 := Aside0.mk (rowK_of (b := g6) (Kd.R_below (Kd.R_mono (Kd.R_bound S4.out.2) (ok' := fun k_ => k_ ≠ g6) (fun k_ hk_ => (by have := hk_.2.2.1; omega))) hb_) (fun _ hk_ => hk_)); have S5 := Aside0.mk (show Below w.heap.size w w5 ∧ w5.heap[g6]? = some (.cells #[.slice none 0 0] 35 (0, 0)) ∧ g6 < w5.heap.size ∧ w.heap.size ≤ g6 ∧ True from ⟨S4.out.1.trans (hb_.mono S4.out.1.size), hbox, lt_of_blk hbox, (by have := S4.out.1.size; omega), trivial⟩); clear hg6 hbox hb_))
    have hk5 : Kept w5 (World.setCell w5 ⟨g6, 0, none⟩ (Value.slice A15 0 c15)).drew (fun k_ => k_ = g6) := ⟨(below_drew1 ((Below.refl 0 w5).setCell (p := ⟨g6, 0, none⟩) (Nat.zero_le _) _)).size, fun i hi hn => Below.heap_setCell _ ⟨g6, 0, none⟩ _ i hn⟩
    have h66 : (World.setCell w5 ⟨g6, 0, none⟩ (Value.slice A15 0 c15)).drew.heap[g6]? = some (.cells #[.slice A15 0 c15] 35 (0, 0)) := blk_put (cs := #[.slice none 0 0]) S5.out.2.1 0 _ rfl
    have SR := Aside0.mk (show Below w.heap.size w (World.setCell w5 ⟨g6, 0, none⟩ (Value.slice A15 0 c15)).drew ∧ LongC g6 (World.setCell w5 ⟨g6, 0, none⟩ (Value.slice A15 0 c15)).drew [] ∧ g6 < (World.setCell w5 ⟨g6, 0, none⟩ (Value.slice A15 0 c15)).drew.heap.size from ⟨below_drew1 (S5.out.1.setCell (p := ⟨g6, 0, none⟩) S5.out.2.2.2.1 _), ⟨A15, c15, h66, Nat.zero_le _, R5.out.2.2.go hk5⟩, Nat.lt_of_lt_of_le S5.out.2.2.1 hk5.1⟩)
    have SI := Aside0.mk (fun (W W' : World) (σ : List Int) (hi : LongC g6 W σ) (hk : Kept W W' (fun _ => False)) => (show LongC g6 W' σ from by obtain ⟨A_, c_, h1_, h2_, h3_⟩ := hi; exact ⟨A_, c_, (hk.2 g6 (lt_of_blk h1_) (fun e_ => e_)).trans h1_, h2_, h3_.go (keptO_none hk)⟩))
    have SB := Aside0.mk (fun (W : World) (σ : List Int) (hi : LongC g6 W σ) => (show g6 < W.heap.size from by obtain ⟨A_, c_, h1_, h2_, h3_⟩ := hi; exact lt_of_blk h1_))
    have SO := Aside0.mk (onc1_calls (LongC g6) longNext 20 g6 w.heap.size w (Nat.le_refl _) eg SI.out SB.out (fun W A c now σ h1_ h2_ h3_ h4_ => longClo_calls g6 w.heap.size w S5.out.2.2.2.1 W A c now σ h1_ h2_ h3_ h4_))
    clear hk5 h66 hc5 hf5
    refine start_ (n := 8) (S := fun w' => True) (ds := []) #[false, false, false, false, false, false, false, false] (by kernel_rfl) rfl rfl trivial (fun hHeld => ?_)
    generalize (World.setCell w5 ⟨g6, 0, none⟩ (Value.slice A15 0 c15)).drew = w55 at SR ⊢
    have HI := SI.out
    have HIb := SB.out
    have HONC := SO.out
    refine pure_ (i := 0) (N := some 16) (v := ?_) (a' := ?_) #[true, false, false, false, false, false, false, false] rfl rfl (by kernel_rfl) (fun _ _ _ h => h) (Or.inl ⟨by rfl, ?_⟩) ?_ ?_
    rotate_left
    ·
     intro w'
     go_simp
     with_reducible rfl
    rotate_left
    ·
     simp only [Act.put, List.setIfInBounds_toArray, List.set_cons_zero, List.set_cons_succ, i64_w, i32_w]
     rfl
    refine pure_ (i := 2) (N := some 18) (v := ?_) (a' := ?_) #[true, false, true, false, false, false, false, false] rfl rfl (by kernel_rfl) (fun _ _ _ h => h) (Or.inl ⟨by rfl, ?_⟩) ?_ ?_
    rotate_left
    ·
     intro w'
     go_simp
     with_reducible rfl
    rotate_left
    ·
     simp only [Act.put, List.setIfInBounds_toArray, List.set_cons_zero, List.set_cons_succ, i64_w, i32_w]
     rfl
    refine pure_ (i := 6) (N := some 22) (v := ?_) (a' := ?_) #[true, false, true, false, false, false, true, false] rfl rfl (by kernel_rfl) (fun _ _ _ h => h) (Or.inl ⟨by rfl, ?_⟩) ?_ ?_
    rotate_left
    ·
     intro w'
     go_simp
     with_reducible rfl
    rotate_left
    ·
     simp only [Act.put, List.setIfInBounds_toArray, List.set_cons_zero, List.set_cons_succ, i64_w, i32_w]
     rfl
    refine take_ (i := 3) (N := some 19) (v := ?_) (a' := ?_) #[true, false, true, true, false, false, true, false] rfl rfl (by kernel_rfl) (fun _ _ _ h => h) (Or.inl ⟨by rfl, ?_⟩) hHeld ?_ ?_
    rotate_left
    ·
     intro w' _
     go_simp
     with_reducible rfl
    rotate_left
    ·
     simp only [Act.put, List.setIfInBounds_toArray, List.set_cons_zero, List.set_cons_succ, i64_w, i32_w]
     rfl
    refine one_ (i := 1) (N := some 17) #[true, true, true, true, false, false, true, false] rfl rfl (by kernel_rfl) (by decide) (fun K hK => ?_)
    refine goes_ Tryd.func16 (by kernel_rfl) rfl #[.string a0] (by rfl) rfl rfl (by simp only [List.map_toArray, List.map_cons, List.map_nil]; rfl) ?_
    with_reducible refine (HM.out _).mono ?_
    rintro e w6 ⟨vt, rfl, ht6, hb6⟩
    refine ⟨_, rfl, ?_⟩
    obtain ⟨At, ct, he_⟩ := Kd.S_slice ht6
    subst he_
    have tb := tabK_of (b := g6) (Kd.S_bound ht6) (fun k_ hk_ => Ne.symm (Nat.ne_of_lt (Nat.lt_of_lt_of_le SR.out.2.2 hk_.2.1)))
    have S6 := Aside0.mk (And.intro (SR.out.1.trans (hb6.mono SR.out.1.size)) (And.intro (HI _ _ _ SR.out.2.1 (Kept.of_below hb6 _)) tb.2))
    clear tb hb6 ht6
    refine hK.out _ _ trivial (fun hHeld => ?_)
    clear hK K
    refine norm_ (a' := ?_) ?_ ?_
    rotate_left
    ·
     show Act.put _ (some 17) _ = _
     simp only [Act.put, List.setIfInBounds_toArray, List.set_cons_zero, List.set_cons_succ, i64_w, i32_w]
     rfl
    refine one_ (i := 4) (N := some 20) #[true, true, true, true, true, false, true, false] rfl rfl (by kernel_rfl) (by decide) (fun K hK => ?_)
    refine goes_ Tryd.func17 (by kernel_rfl) rfl #[.int .u8 (bt a1 0)] (by rfl) rfl rfl (by simp only [List.map_toArray, List.map_cons, List.map_nil]; rfl) ?_
    with_reducible refine (HG.out _).mono ?_
    rintro e w7 ⟨rfl, ⟨nd, rfl⟩⟩
    refine ⟨_, rfl, ?_⟩
    have hb_ := pw_below_drewN (Below.refl w6.heap.size w6) nd
    generalize w6.drewN nd = w7 at hb_ ⊢
    have S7 := Aside0.mk (And.intro (S6.out.1.trans (hb_.mono S6.out.1.size)) (And.intro (HI _ _ _ S6.out.2.1 (Kept.of_below hb_ _)) (And.intro S6.out.2.2.1 (S6.out.2.2.2.go (Kept.of_below hb_ _)))))
    clear hb_
    refine hK.out _ _ trivial (fun hHeld => ?_)
    clear hK K
    refine norm_ (a' := ?_) ?_ ?_
    rotate_left
    ·
     show Act.put _ (some 20) _ = _
     simp only [Act.put, List.setIfInBounds_toArray, List.set_cons_zero, List.set_cons_succ, i64_w, i32_w]
     rfl
    refine one_ (i := 5) (N := some 21) #[true, true, true, true, true, true, true, false] rfl rfl (by kernel_rfl) (by decide) (fun K hK => ?_)
    refine Kd.R_lit_step (Kd.int .i64) _ 3 ?hg (N := 21) ?hd (xs := [d]) (inner := [.int .i64 d]) (ok := fun k_ => k_ ≠ g6) (okp := fun _ => False) ?hr ?hp (fun _ hk => hk.elim) ?hn (Below.refl _ _) (Nat.le_refl _) (by simp) ?_; (case hd => rfl); (case hg => rfl); (case hr => first | (go_simp; done) | (go_simp; rfl)); (case hp => exact (Reps.one (show Kd.M (Kd.int .i64) _ _ _ d [.int .i64 d] from rfl) (Reps.none _ _))); (case hn => exact Ne.symm (Nat.ne_of_lt (HIb _ _ S7.out.2.1)))
    intro vn w8 ho8 hb_ hg_ hnew_
    clear hg_ hnew_
    obtain ⟨An, cn, he_⟩ := Kd.R_slice ho8
    subst he_
    have rn := rowK_of ho8 (fun _ hk_ => hk_)
    have S8 := Aside0.mk (And.intro (S7.out.1.trans (hb_.mono S7.out.1.size)) (And.intro (HI _ _ _ S7.out.2.1 (Kept.of_below hb_ _)) (And.intro S7.out.2.2.1 (And.intro (S7.out.2.2.2.go (Kept.of_below hb_ _)) rn.2))))
    clear hb_ rn ho8
    refine hK.out _ _ trivial (fun hHeld => ?_)
    clear hK K
    refine norm_ (a' := ?_) ?_ ?_
    rotate_left
    ·
     show Act.put _ (some 21) _ = _
     simp only [Act.put, List.setIfInBounds_toArray, List.set_cons_zero, List.set_cons_succ, i64_w, i32_w]
     rfl
    refine one_ (i := 7) (N := some 23) #[true, true, true, true, true, true, true, true] rfl rfl (by kernel_rfl) (by decide) (fun K hK => ?_)
    refine goes_ Tryd.func15 (by kernel_rfl) rfl #[.slice At l.length ct, .slice An [d].length cn, .func (.func 20) #[] #[.pointer (some ⟨g6, 0, none⟩)]] (by rfl) rfl rfl (by simp only [List.map_toArray, List.map_cons, List.map_nil]; rfl) ?_
    with_reducible refine (HONC k l [d] _ q At ct An cn w8 S8.out.1 S8.out.2.1 S8.out.2.2.2.1 S8.out.2.2.1 S8.out.2.2.2.2.2 S8.out.2.2.2.2.1 HO.out).mono ?_
    rintro e w9 ⟨rfl, h91, h92, _⟩
    refine ⟨_, rfl, ?_⟩
    obtain ⟨Aq, cq, hq1, hq2, hq3⟩ := h92
    have hc9 : w9.cell? ⟨g6, 0, none⟩ = some (.slice Aq q.length cq) := (blk_cell hq1 0).trans rfl
    have S9 := Aside0.mk (And.intro h91 (And.intro hq2 hq3))
    clear h91 hq1 hq2 hq3
    refine hK.out _ _ trivial (fun hHeld => ?_)
    clear hK K
    refine norm_ (a' := ?_) ?_ ?_
    rotate_left
    ·
     show Act.put _ (some 23) _ = _
     simp only [Act.put, List.setIfInBounds_toArray, List.set_cons_zero, List.set_cons_succ, i64_w, i32_w]
     rfl
    refine done_ (by kernel_rfl) ?_
    go_wp2_with (go_at_call 21; refine (impl_digitText.calls k Aq cq q s _ (S9.out.2.2 _ (keptO_refl _ _)) S9.out.2.1 HS.out).mono ?_; rintro e w10 ⟨rfl, hb_⟩; have B10 := Aside0.mk (S9.out.1.trans (hb_.mono S9.out.1.size)); clear hb_)
    go_ret2
    exact ⟨rfl, B10.out⟩
   ·
    cases h

end Go.Proofs.YtgmdahmfmpdegaaDoor.P

-- printed by xprint.py
namespace Go.Proofs.YtgmdahmfmpdegaaDoor.P
open Go.RowKit Go.Proofs.YtgmdahmfmpdegaaDoorW.PrintWords Go.Proofs.YtgmdahmfmpdegaaDoorW.PrintLast Go.Proofs.YtgmdahmfmpdegaaDoorW.PrintMore
attribute [local go_sem] max2_int min2_int max_two min_two max_three min_three max_four min_four   -- for this text's walks alone
set_option linter.unusedVariables false
set_option linter.unusedSimpArgs false

/-! ### spec_l1In: function 10 -/
def spec_l1In.f (a0 : Int) (a1 : Int) (a2 : Int) : Option (Bool) := if a0 ≥ a1 then (some (decide (a0 ≤ a2))) else (some false)
set_option maxHeartbeats 8000000 in
set_option maxRecDepth 100000 in
theorem spec_l1In.calls (a0 : Int) (a1 : Int) (a2 : Int) (r : Bool) (w : World) (h : spec_l1In.f a0 a1 a2 = some r) :
  Calls Tryd.prog 10 #[.int .i64 a0, .int .i64 a1, .int .i64 a2] w fun e w' => e = .returned (.bool r) ∧ Drawn0 w w' := by
 have H : (if a0 ≥ a1 then (some (decide (a0 ≤ a2))) else (some false)) = some r := h
 clear h
 by_cases c4 : a0 ≥ a1
 ·
  rw [if_pos c4] at H
  have c4b0 : decide (a1 ≤ a0) = true := decide_eq_true c4
  clear c4
  obtain rfl := Option.some.inj H
  go_enter Tryd.func10, Tryd.ntmps10
  go_wp2
  go_ret
  exact ⟨by first | rfl | (simp; done) | (simp [*]; done), by repeat (first | exact Drawn0.refl _ | apply Drawn0.step)⟩
 ·
  rw [if_neg c4] at H
  have c4b0 : decide (a1 ≤ a0) = false := decide_eq_false c4
  clear c4
  obtain rfl := Option.some.inj H
  go_enter Tryd.func10, Tryd.ntmps10
  go_wp2
  go_ret
  exact ⟨by first | rfl | (simp; done) | (simp [*]; done), by repeat (first | exact Drawn0.refl _ | apply Drawn0.step)⟩

end Go.Proofs.YtgmdahmfmpdegaaDoor.P

-- printed by xprint.py
namespace Go.Proofs.YtgmdahmfmpdegaaDoor.P
open Go.RowKit Go.Proofs.YtgmdahmfmpdegaaDoorW.PrintWords Go.Proofs.YtgmdahmfmpdegaaDoorW.PrintLast Go.Proofs.YtgmdahmfmpdegaaDoorW.PrintMore
attribute [local go_sem] max2_int min2_int max_two min_two max_three min_three max_four min_four   -- for this text's walks alone
set_option linter.unusedVariables false
set_option linter.unusedSimpArgs false

/-! ### spec_wkDigits: function 23 -/
def spec_wkDigits.l0 : Nat → ByteArray → Int → Option (Bool)
 | 0, _, _ => none
 | k + 1, x0, x3 => if x3 < (x0.size : Int) then (if 0 ≤ x3 then (if (bt x0 x3) < 48 then (some false) else (if (bt x0 x3) > 57 then (some false) else (spec_wkDigits.l0 k x0 (wrap64 (x3 + 1))))) else (none)) else (some true)
def spec_wkDigits.f (k : Nat) (a0 : ByteArray) : Option (Bool) := (spec_l1In.f (a0.size : Int) 1 40).bind fun t101 => (if t101 = true then (spec_wkDigits.l0 k a0 0) else (some false))
theorem spec_wkDigits.mono_l : ∀ k, (∀ y0 y1, LeO (spec_wkDigits.l0 k y0 y1) (spec_wkDigits.l0 (k + 1) y0 y1))
 | 0 => by intros; intro r h; simp [spec_wkDigits.l0] at h
 | k + 1 => by
  have ih0 := spec_wkDigits.mono_l k
  ·
   intro y0 y1
   unfold spec_wkDigits.l0
   repeat' first
   | (with_reducible exact ih0 _ _)
   | (with_reducible exact LeO.refl _)
   | (with_reducible exact LeO.none _)
   | (with_reducible refine LeO.ite ?_ ?_)
   | (with_reducible refine LeO.bind ?_ (fun _ => ?_))
   | exact ih0 _ _
   | exact LeO.none _
   | refine LeO.ite ?_ ?_
   | refine LeO.bind ?_ (fun _ => ?_)
theorem spec_wkDigits.mono : ∀ y0 k, LeO (spec_wkDigits.f k y0) (spec_wkDigits.f (k + 1) y0) := by
 intro y0 k
 have ih0 := spec_wkDigits.mono_l k
 unfold spec_wkDigits.f
 repeat' first
   | (with_reducible exact ih0 _ _)
   | (with_reducible exact LeO.refl _)
   | (with_reducible exact LeO.none _)
   | (with_reducible refine LeO.ite ?_ ?_)
   | (with_reducible refine LeO.bind ?_ (fun _ => ?_))
   | exact ih0 _ _
   | exact LeO.none _
   | refine LeO.ite ?_ ?_
   | refine LeO.bind ?_ (fun _ => ?_)
set_option maxHeartbeats 8000000 in
set_option maxRecDepth 100000 in
theorem spec_wkDigits.calls (k : Nat) (a0 : ByteArray) (r : Bool) (w : World) (h : spec_wkDigits.f k a0 = some r) :
  Calls Tryd.prog 23 #[.string a0] w fun e w' => e = .returned (.bool r) ∧ Drawn0 w w' := by
 have H : ((spec_l1In.f (a0.size : Int) 1 40).bind fun t101 => (if t101 = true then (spec_wkDigits.l0 k a0 0) else (some false))) = some r := h
 clear h
 replace H := Option.bind_eq_some_iff.mp H
 obtain ⟨t101, A20, H⟩ := H
 replace H : (if t101 = true then (spec_wkDigits.l0 k a0 0) else (some false)) = some r := H
 have A2 := Aside0.mk A20
 clear A20
 by_cases c3 : t101 = true
 ·
  subst c3
  have H1 : (spec_wkDigits.l0 k a0 0) = some r := by rw [if_pos rfl] at H; exact H
  clear H
  have H := H1
  clear H1
  have H' := Aside0.mk H
  clear H
  go_enter Tryd.func23, Tryd.ntmps23
  go_wp2_with (first | ((with_reducible refine gate_callee (f := 10) rfl ?_); refine goesL_ (some 6) rfl rfl Tryd.func10 (by kernel_rfl) rfl #[.int .i64 (a0.size : Int), .int .i64 1, .int .i64 40] rfl (by (try simp only [List.map_toArray, List.map_cons, List.map_nil]); first | done | rfl | (simp only [List.length_drop, List.length_take]; rfl)) ?_; (with_reducible refine (spec_l1In.calls (a0.size : Int) 1 40 true _ A2.out).mono ?_); rintro e w' ⟨rfl, ⟨nd, rfl⟩⟩; refine ⟨_, rfl, ?_⟩))
  go_loopg [3] k (fun kq v3 w' => ∃ (x3_1 : Int), v3 = .int .i64 x3_1 ∧ Aside0 (spec_wkDigits.l0 kq a0 x3_1 = some r) ∧ Aside0 (kq ≤ k) ∧ Drawn0 w w')
  case atStart => exact ⟨(0), (by first | rfl | (simp; done) | (simp [*]; done)), H', ⟨Nat.le_refl _⟩, by repeat (first | exact Drawn0.refl _ | apply Drawn0.step)⟩
  case round =>
   clear H'
   try clear c1
   try clear c2
   try clear p2
   try clear c3
   obtain ⟨x3_1, rfl, HA, HK1, ⟨m1, rfl⟩⟩ := hrel
   cases gk with
   | zero => exact absurd HA.out (by simp [spec_wkDigits.l0])
   | succ k1 =>
    have H := HA.out
    clear HA
    simp only [spec_wkDigits.l0] at H
    by_cases c4 : x3_1 < (a0.size : Int)
    ·
     rw [if_pos c4] at H
     have c4b0 : decide (x3_1 < (a0.size : Int)) = true := decide_eq_true c4
     clear c4
     by_cases c5 : 0 ≤ x3_1
     ·
      rw [if_pos c5] at H
      have c5b0 : decide (0 ≤ x3_1) = true := decide_eq_true c5
      clear c5
      by_cases c7 : (bt a0 x3_1) < 48
      ·
       rw [if_pos c7] at H
       have c7b0 : decide ((bt a0 x3_1) < 48) = true := decide_eq_true c7
       clear c7
       obtain rfl := Option.some.inj H
       have p6 : 0 ≤ (x3_1 : Int) := of_decide_eq_true (by first | (with_reducible assumption) | assumption)
       have q6 : x3_1 < (a0.size : Int) := of_decide_eq_true (by first | (with_reducible assumption) | assumption)
       have hx6 := bt_at a0 x3_1
       replace p6 := eq_true p6
       replace q6 := eq_true q6
       go_wp2
       go_ret
       exact ⟨by first | rfl | (simp; done) | (simp [*]; done), by repeat (first | exact Drawn0.refl _ | apply Drawn0.step)⟩
      ·
       rw [if_neg c7] at H
       have c7b0 : decide ((bt a0 x3_1) < 48) = false := decide_eq_false c7
       clear c7
       by_cases c9 : (bt a0 x3_1) > 57
       ·
        rw [if_pos c9] at H
        have c9b0 : decide (57 < (bt a0 x3_1)) = true := decide_eq_true c9
        clear c9
        obtain rfl := Option.some.inj H
        have p6 : 0 ≤ (x3_1 : Int) := of_decide_eq_true (by first | (with_reducible assumption) | assumption)
        have q6 : x3_1 < (a0.size : Int) := of_decide_eq_true (by first | (with_reducible assumption) | assumption)
        have hx6 := bt_at a0 x3_1
        replace p6 := eq_true p6
        replace q6 := eq_true q6
        have p8 : 0 ≤ (x3_1 : Int) := of_decide_eq_true (by first | (with_reducible assumption) | assumption)
        have q8 : x3_1 < (a0.size : Int) := of_decide_eq_true (by first | (with_reducible assumption) | assumption)
        have hx8 := bt_at a0 x3_1
        replace p8 := eq_true p8
        replace q8 := eq_true q8
        go_wp2
        go_ret
        exact ⟨by first | rfl | (simp; done) | (simp [*]; done), by repeat (first | exact Drawn0.refl _ | apply Drawn0.step)⟩
       ·
        rw [if_neg c9] at H
        have c9b0 : decide (57 < (bt a0 x3_1)) = false := decide_eq_false c9
        clear c9
        have H' := Aside0.mk H
        clear H
        have p6 : 0 ≤ (x3_1 : Int) := of_decide_eq_true (by first | (with_reducible assumption) | assumption)
        have q6 : x3_1 < (a0.size : Int) := of_decide_eq_true (by first | (with_reducible assumption) | assumption)
        have hx6 := bt_at a0 x3_1
        replace p6 := eq_true p6
        replace q6 := eq_true q6
        have p8 : 0 ≤ (x3_1 : Int) := of_decide_eq_true (by first | (with_reducible assumption) | assumption)
        have q8 : x3_1 < (a0.size : Int) := of_decide_eq_true (by first | (with_reducible assumption) | assumption)
        have hx8 := bt_at a0 x3_1
        replace p8 := eq_true p8
        replace q8 := eq_true q8
        go_wp2
        go_roundg k1
        case measure => have := HK1.out; omega
        case rel => exact ⟨(wrap64 (x3_1 + 1)), (by first | rfl | (simp; done) | (simp [*]; done)), H', ⟨by have := HK1.out; omega⟩, by repeat (first | exact Drawn0.refl _ | apply Drawn0.step)⟩
     ·
      rw [if_neg c5] at H
      exact absurd H (by simp)
    ·
     rw [if_neg c4] at H
     have c4b0 : decide (x3_1 < (a0.size : Int)) = false := decide_eq_false c4
     clear c4
     obtain rfl := Option.some.inj H
     go_wp2
     go_ret
     exact ⟨by first | rfl | (simp; done) | (simp [*]; done), by repeat (first | exact Drawn0.refl _ | apply Drawn0.step)⟩
 ·
  replace c3 := Bool.eq_false_iff.mpr c3
  subst c3
  have H1 : (some false) = some r := by rw [if_neg (show ¬ (false = true) by decide)] at H; exact H
  clear H
  have H := H1
  clear H1
  obtain rfl := Option.some.inj H
  go_enter Tryd.func23, Tryd.ntmps23
  go_wp2_with (first | ((with_reducible refine gate_callee (f := 10) rfl ?_); refine goesL_ (some 6) rfl rfl Tryd.func10 (by kernel_rfl) rfl #[.int .i64 (a0.size : Int), .int .i64 1, .int .i64 40] rfl (by (try simp only [List.map_toArray, List.map_cons, List.map_nil]); first | done | rfl | (simp only [List.length_drop, List.length_take]; rfl)) ?_; (with_reducible refine (spec_l1In.calls (a0.size : Int) 1 40 false _ A2.out).mono ?_); rintro e w' ⟨rfl, ⟨nd, rfl⟩⟩; refine ⟨_, rfl, ?_⟩))
  go_ret
  exact ⟨by first | rfl | (simp; done) | (simp [*]; done), by repeat (first | exact Drawn0.refl _ | apply Drawn0.step)⟩

end Go.Proofs.YtgmdahmfmpdegaaDoor.P

-- printed by xprint.py
namespace Go.Proofs.YtgmdahmfmpdegaaDoor.P
open Go.RowKit Go.Proofs.YtgmdahmfmpdegaaDoorW.PrintWords Go.Proofs.YtgmdahmfmpdegaaDoorW.PrintLast Go.Proofs.YtgmdahmfmpdegaaDoorW.PrintMore
attribute [local go_sem] max2_int min2_int max_two min_two max_three min_three max_four min_four   -- for this text's walks alone
set_option linter.unusedVariables false
set_option linter.unusedSimpArgs false

/-! ### spec_wkPiece: function 22 -/
def spec_wkPiece.f (a0 : ByteArray) : Option (Bool) := if a0.toList = ([110] : List UInt8) then (some true) else (if a0.toList = ([107] : List UInt8) then (some true) else (if a0.toList = ([114] : List UInt8) then (some true) else (some (a0.toList == ([98] : List UInt8)))))
set_option maxHeartbeats 8000000 in
set_option maxRecDepth 100000 in
theorem spec_wkPiece.calls (a0 : ByteArray) (r : Bool) (w : World) (h : spec_wkPiece.f a0 = some r) :
  Calls Tryd.prog 22 #[.string a0] w fun e w' => e = .returned (.bool r) ∧ Drawn0 w w' := by
 have H : (if a0.toList = ([110] : List UInt8) then (some true) else (if a0.toList = ([107] : List UInt8) then (some true) else (if a0.toList = ([114] : List UInt8) then (some true) else (some (a0.toList == ([98] : List UInt8)))))) = some r := h
 clear h
 by_cases c2 : a0.toList = ([110] : List UInt8)
 ·
  rw [if_pos c2] at H
  have c2b0 : (a0.toList == ([110] : List UInt8)) = true := beq_iff_eq.mpr c2
  have c2b1 : (a0.toList != ([110] : List UInt8)) = false := bne_eq_false_iff_eq.mpr c2
  clear c2
  obtain rfl := Option.some.inj H
  go_enter Tryd.func22, Tryd.ntmps22
  go_wp2
  go_ret
  exact ⟨by first | rfl | (simp; done) | (simp [*]; done), by repeat (first | exact Drawn0.refl _ | apply Drawn0.step)⟩
 ·
  rw [if_neg c2] at H
  have c2b0 : (a0.toList == ([110] : List UInt8)) = false := beq_eq_false_iff_ne.mpr c2
  have c2b1 : (a0.toList != ([110] : List UInt8)) = true := bne_iff_ne.mpr c2
  by_cases c3 : a0.toList = ([107] : List UInt8)
  ·
   rw [if_pos c3] at H
   have c3b0 : (a0.toList == ([107] : List UInt8)) = true := beq_iff_eq.mpr c3
   have c3b1 : (a0.toList != ([107] : List UInt8)) = false := bne_eq_false_iff_eq.mpr c3
   clear c3
   obtain rfl := Option.some.inj H
   go_enter Tryd.func22, Tryd.ntmps22
   go_wp2
   go_ret
   exact ⟨by first | rfl | (simp; done) | (simp [*]; done), by repeat (first | exact Drawn0.refl _ | apply Drawn0.step)⟩
  ·
   rw [if_neg c3] at H
   have c3b0 : (a0.toList == ([107] : List UInt8)) = false := beq_eq_false_iff_ne.mpr c3
   have c3b1 : (a0.toList != ([107] : List UInt8)) = true := bne_iff_ne.mpr c3
   by_cases c4 : a0.toList = ([114] : List UInt8)
   ·
    rw [if_pos c4] at H
    have c4b0 : (a0.toList == ([114] : List UInt8)) = true := beq_iff_eq.mpr c4
    have c4b1 : (a0.toList != ([114] : List UInt8)) = false := bne_eq_false_iff_eq.mpr c4
    clear c4
    obtain rfl := Option.some.inj H
    go_enter Tryd.func22, Tryd.ntmps22
    go_wp2
    go_ret
    exact ⟨by first | rfl | (simp; done) | (simp [*]; done), by repeat (first | exact Drawn0.refl _ | apply Drawn0.step)⟩
   ·
    rw [if_neg c4] at H
    have c4b0 : (a0.toList == ([114] : List UInt8)) = false := beq_eq_false_iff_ne.mpr c4
    have c4b1 : (a0.toList != ([114] : List UInt8)) = true := bne_iff_ne.mpr c4
    obtain rfl := Option.some.inj H
    go_enter Tryd.func22, Tryd.ntmps22
    go_wp2
    go_ret
    exact ⟨by first | rfl | (simp; done) | (simp [*]; done), by repeat (first | exact Drawn0.refl _ | apply Drawn0.step)⟩

end Go.Proofs.YtgmdahmfmpdegaaDoor.P

-- printed by xprint.py
namespace Go.Proofs.YtgmdahmfmpdegaaDoor.P
open Go.RowKit Go.Proofs.YtgmdahmfmpdegaaDoorW.PrintWords Go.Proofs.YtgmdahmfmpdegaaDoorW.PrintLast Go.Proofs.YtgmdahmfmpdegaaDoorW.PrintMore
attribute [local go_sem] max2_int min2_int max_two min_two max_three min_three max_four min_four   -- for this text's walks alone
set_option linter.unusedVariables false
set_option linter.unusedSimpArgs false

/-! ### spec_wkAsked: function 9 -/
def spec_wkAsked.f (k : Nat) (a0 : ByteArray) (a1 : ByteArray) : Option (Bool) := (spec_wkPiece.f a0).bind fun t101 => (if t101 = true then ((spec_wkDigits.f k a1).bind fun t102 => (if t102 = true then (some ((a1.size : Int) == 1)) else (some false))) else (some false))
theorem spec_wkAsked.mono : ∀ y0 y1 k, LeO (spec_wkAsked.f k y0 y1) (spec_wkAsked.f (k + 1) y0 y1) := by
 intro y0 y1 k
 unfold spec_wkAsked.f
 repeat' first
   | (with_reducible exact spec_wkDigits.mono _ _)
   | (with_reducible exact LeO.refl _)
   | (with_reducible exact LeO.none _)
   | (with_reducible refine LeO.ite ?_ ?_)
   | (with_reducible refine LeO.bind ?_ (fun _ => ?_))
   | exact spec_wkDigits.mono _ _
   | exact LeO.none _
   | refine LeO.ite ?_ ?_
   | refine LeO.bind ?_ (fun _ => ?_)
set_option maxHeartbeats 8000000 in
set_option maxRecDepth 100000 in
theorem spec_wkAsked.calls (k : Nat) (a0 : ByteArray) (a1 : ByteArray) (r : Bool) (w : World) (h : spec_wkAsked.f k a0 a1 = some r) :
  Calls Tryd.prog 9 #[.string a0, .string a1] w fun e w' => e = .returned (.bool r) ∧ Drawn0 w w' := by
 have H : ((spec_wkPiece.f a0).bind fun t101 => (if t101 = true then ((spec_wkDigits.f k a1).bind fun t102 => (if t102 = true then (some ((a1.size : Int) == 1)) else (some false))) else (some false))) = some r := h
 clear h
 replace H := Option.bind_eq_some_iff.mp H
 obtain ⟨t101, A30, H⟩ := H
 replace H : (if t101 = true then ((spec_wkDigits.f k a1).bind fun t102 => (if t102 = true then (some ((a1.size : Int) == 1)) else (some false))) else (some false)) = some r := H
 have A3 := Aside0.mk A30
 clear A30
 by_cases c4 : t101 = true
 ·
  subst c4
  have H1 : ((spec_wkDigits.f k a1).bind fun t102 => (if t102 = true then (some ((a1.size : Int) == 1)) else (some false))) = some r := by rw [if_pos rfl] at H; exact H
  clear H
  have H := H1
  clear H1
  replace H := Option.bind_eq_some_iff.mp H
  obtain ⟨t102, A50, H⟩ := H
  replace H : (if t102 = true then (some ((a1.size : Int) == 1)) else (some false)) = some r := H
  have A5 := Aside0.mk A50
  clear A50
  by_cases c6 : t102 = true
  ·
   subst c6
   have H1 : (some ((a1.size : Int) == 1)) = some r := by rw [if_pos rfl] at H; exact H
   clear H
   have H := H1
   clear H1
   obtain rfl := Option.some.inj H
   go_enter Tryd.func9, Tryd.ntmps9
   go_wp2_with (first | ((with_reducible refine gate_callee (f := 22) rfl ?_); refine goesL_ (some 6) rfl rfl Tryd.func22 (by kernel_rfl) rfl #[.string a0] rfl (by (try simp only [List.map_toArray, List.map_cons, List.map_nil]); first | done | rfl | (simp only [List.length_drop, List.length_take]; rfl)) ?_; (with_reducible refine (spec_wkPiece.calls a0 true _ A3.out).mono ?_); rintro e w' ⟨rfl, ⟨nd, rfl⟩⟩; refine ⟨_, rfl, ?_⟩) | (go_at_call 23; (with_reducible refine (spec_wkDigits.calls k a1 true _ A5.out).mono ?_); rintro e w' ⟨rfl, ⟨nd, rfl⟩⟩))
   go_ret
   exact ⟨by first | rfl | (simp; done) | (simp [*]; done), by repeat (first | exact Drawn0.refl _ | apply Drawn0.step)⟩
  ·
   replace c6 := Bool.eq_false_iff.mpr c6
   subst c6
   have H1 : (some false) = some r := by rw [if_neg (show ¬ (false = true) by decide)] at H; exact H
   clear H
   have H := H1
   clear H1
   obtain rfl := Option.some.inj H
   go_enter Tryd.func9, Tryd.ntmps9
   go_wp2_with (first | ((with_reducible refine gate_callee (f := 22) rfl ?_); refine goesL_ (some 6) rfl rfl Tryd.func22 (by kernel_rfl) rfl #[.string a0] rfl (by (try simp only [List.map_toArray, List.map_cons, List.map_nil]); first | done | rfl | (simp only [List.length_drop, List.length_take]; rfl)) ?_; (with_reducible refine (spec_wkPiece.calls a0 true _ A3.out).mono ?_); rintro e w' ⟨rfl, ⟨nd, rfl⟩⟩; refine ⟨_, rfl, ?_⟩) | (go_at_call 23; (with_reducible refine (spec_wkDigits.calls k a1 false _ A5.out).mono ?_); rintro e w' ⟨rfl, ⟨nd, rfl⟩⟩))
   go_ret
   exact ⟨by first | rfl | (simp; done) | (simp [*]; done), by repeat (first | exact Drawn0.refl _ | apply Drawn0.step)⟩
 ·
  replace c4 := Bool.eq_false_iff.mpr c4
  subst c4
  have H1 : (some false) = some r := by rw [if_neg (show ¬ (false = true) by decide)] at H; exact H
  clear H
  have H := H1
  clear H1
  obtain rfl := Option.some.inj H
  go_enter Tryd.func9, Tryd.ntmps9
  go_wp2_with (first | ((with_reducible refine gate_callee (f := 22) rfl ?_); refine goesL_ (some 6) rfl rfl Tryd.func22 (by kernel_rfl) rfl #[.string a0] rfl (by (try simp only [List.map_toArray, List.map_cons, List.map_nil]); first | done | rfl | (simp only [List.length_drop, List.length_take]; rfl)) ?_; (with_reducible refine (spec_wkPiece.calls a0 false _ A3.out).mono ?_); rintro e w' ⟨rfl, ⟨nd, rfl⟩⟩; refine ⟨_, rfl, ?_⟩))
  go_ret
  exact ⟨by first | rfl | (simp; done) | (simp [*]; done), by repeat (first | exact Drawn0.refl _ | apply Drawn0.step)⟩

end Go.Proofs.YtgmdahmfmpdegaaDoor.P

-- printed by xprint.py
namespace Go.Proofs.YtgmdahmfmpdegaaDoor.P
open Go.RowKit Go.Proofs.YtgmdahmfmpdegaaDoorW.PrintWords Go.Proofs.YtgmdahmfmpdegaaDoorW.PrintLast Go.Proofs.YtgmdahmfmpdegaaDoorW.PrintMore
attribute [local go_sem] max2_int min2_int max_two min_two max_three min_three max_four min_four   -- for this text's walks alone
set_option linter.unusedVariables false
set_option linter.unusedSimpArgs false

/-! ### spec_wkHas: function 25 -/
def spec_wkHas.l0 : Nat → ByteArray → Int → Int → Option (Bool)
 | 0, _, _, _ => none
 | k + 1, x0, x1, x5 => if x5 < (x0.size : Int) then (if 0 ≤ x5 then (if (bt x0 x5) = x1 then (some true) else (spec_wkHas.l0 k x0 x1 (wrap64 (x5 + 1)))) else (none)) else (some false)
def spec_wkHas.f (k : Nat) (a0 : ByteArray) (a1 : Int) : Option (Bool) := spec_wkHas.l0 k a0 a1 0
theorem spec_wkHas.mono_l : ∀ k, (∀ y0 y1 y2, LeO (spec_wkHas.l0 k y0 y1 y2) (spec_wkHas.l0 (k + 1) y0 y1 y2))
 | 0 => by intros; intro r h; simp [spec_wkHas.l0] at h
 | k + 1 => by
  have ih0 := spec_wkHas.mono_l k
  ·
   intro y0 y1 y2
   unfold spec_wkHas.l0
   repeat' first
   | (with_reducible exact ih0 _ _ _)
   | (with_reducible exact LeO.refl _)
   | (with_reducible exact LeO.none _)
   | (with_reducible refine LeO.ite ?_ ?_)
   | (with_reducible refine LeO.bind ?_ (fun _ => ?_))
   | exact ih0 _ _ _
   | exact LeO.none _
   | refine LeO.ite ?_ ?_
   | refine LeO.bind ?_ (fun _ => ?_)
theorem spec_wkHas.mono : ∀ y0 y1 k, LeO (spec_wkHas.f k y0 y1) (spec_wkHas.f (k + 1) y0 y1) := by
 intro y0 y1 k
 have ih0 := spec_wkHas.mono_l k
 unfold spec_wkHas.f
 repeat' first
   | (with_reducible exact ih0 _ _ _)
   | (with_reducible exact LeO.refl _)
   | (with_reducible exact LeO.none _)
   | (with_reducible refine LeO.ite ?_ ?_)
   | (with_reducible refine LeO.bind ?_ (fun _ => ?_))
   | exact ih0 _ _ _
   | exact LeO.none _
   | refine LeO.ite ?_ ?_
   | refine LeO.bind ?_ (fun _ => ?_)
set_option maxHeartbeats 8000000 in
set_option maxRecDepth 100000 in
theorem spec_wkHas.calls (k : Nat) (a0 : ByteArray) (a1 : Int) (r : Bool) (w : World) (h : spec_wkHas.f k a0 a1 = some r) :
  Calls Tryd.prog 25 #[.string a0, .int .u8 a1] w fun e w' => e = .returned (.bool r) ∧ Drawn0 w w' := by
 have H : (spec_wkHas.l0 k a0 a1 0) = some r := h
 clear h
 have H' := Aside0.mk H
 clear H
 go_enter Tryd.func25, Tryd.ntmps25
 go_wp2
 go_loopg [5] k (fun kq v5 w' => ∃ (x5_1 : Int), v5 = .int .i64 x5_1 ∧ Aside0 (spec_wkHas.l0 kq a0 a1 x5_1 = some r) ∧ Aside0 (kq ≤ k) ∧ Drawn0 w w')
 case atStart => exact ⟨(0), (by first | rfl | (simp; done) | (simp [*]; done)), H', ⟨Nat.le_refl _⟩, by repeat (first | exact Drawn0.refl _ | apply Drawn0.step)⟩
 case round =>
  clear H'
  try clear c2
  try clear p2
  obtain ⟨x5_1, rfl, HA, HK1, ⟨m1, rfl⟩⟩ := hrel
  cases gk with
  | zero => exact absurd HA.out (by simp [spec_wkHas.l0])
  | succ k1 =>
   have H := HA.out
   clear HA
   simp only [spec_wkHas.l0] at H
   by_cases c3 : x5_1 < (a0.size : Int)
   ·
    rw [if_pos c3] at H
    have c3b0 : decide (x5_1 < (a0.size : Int)) = true := decide_eq_true c3
    clear c3
    by_cases c4 : 0 ≤ x5_1
    ·
     rw [if_pos c4] at H
     have c4b0 : decide (0 ≤ x5_1) = true := decide_eq_true c4
     clear c4
     by_cases c6 : (bt a0 x5_1) = a1
     ·
      rw [if_pos c6] at H
      have c6b0 : ((bt a0 x5_1) == a1) = true := beq_iff_eq.mpr c6
      have c6b1 : ((bt a0 x5_1) != a1) = false := bne_eq_false_iff_eq.mpr c6
      clear c6
      obtain rfl := Option.some.inj H
      have p5 : 0 ≤ (x5_1 : Int) := of_decide_eq_true (by first | (with_reducible assumption) | assumption)
      have q5 : x5_1 < (a0.size : Int) := of_decide_eq_true (by first | (with_reducible assumption) | assumption)
      have hx5 := bt_at a0 x5_1
      replace p5 := eq_true p5
      replace q5 := eq_true q5
      go_wp2
      go_ret
      exact ⟨by first | rfl | (simp; done) | (simp [*]; done), by repeat (first | exact Drawn0.refl _ | apply Drawn0.step)⟩
     ·
      rw [if_neg c6] at H
      have c6b0 : ((bt a0 x5_1) == a1) = false := beq_eq_false_iff_ne.mpr c6
      have c6b1 : ((bt a0 x5_1) != a1) = true := bne_iff_ne.mpr c6
      have H' := Aside0.mk H
      clear H
      have p5 : 0 ≤ (x5_1 : Int) := of_decide_eq_true (by first | (with_reducible assumption) | assumption)
      have q5 : x5_1 < (a0.size : Int) := of_decide_eq_true (by first | (with_reducible assumption) | assumption)
      have hx5 := bt_at a0 x5_1
      replace p5 := eq_true p5
      replace q5 := eq_true q5
      go_wp2
      go_roundg k1
      case measure => have := HK1.out; omega
      case rel => exact ⟨(wrap64 (x5_1 + 1)), (by first | rfl | (simp; done) | (simp [*]; done)), H', ⟨by have := HK1.out; omega⟩, by repeat (first | exact Drawn0.refl _ | apply Drawn0.step)⟩
    ·
     rw [if_neg c4] at H
     exact absurd H (by simp)
   ·
    rw [if_neg c3] at H
    have c3b0 : decide (x5_1 < (a0.size : Int)) = false := decide_eq_false c3
    clear c3
    obtain rfl := Option.some.inj H
    go_wp2
    go_ret
    exact ⟨by first | rfl | (simp; done) | (simp [*]; done), by repeat (first | exact Drawn0.refl _ | apply Drawn0.step)⟩

end Go.Proofs.YtgmdahmfmpdegaaDoor.P

-- printed by xprint.py
namespace Go.Proofs.YtgmdahmfmpdegaaDoor.P
open Go.RowKit Go.Proofs.YtgmdahmfmpdegaaDoorW.PrintWords Go.Proofs.YtgmdahmfmpdegaaDoorW.PrintLast Go.Proofs.YtgmdahmfmpdegaaDoorW.PrintMore
attribute [local go_sem] max2_int min2_int max_two min_two max_three min_three max_four min_four   -- for this text's walks alone
set_option linter.unusedVariables false
set_option linter.unusedSimpArgs false

/-! ### spec_wkAt: function 42 -/
def spec_wkAt.j0 : Nat → Int → Int → Bool → Option (Int)
 | 0, _, _, _ => none
 | k + 1, x0, x1, x5 => if x5 = true then (some 48) else ((spec_l1In.f x0 0 2).bind fun t101 => (if t101 = true then ((spec_l1In.f x1 0 2).bind fun t102 => (if t102 = true then (if 0 ≤ (wrap64 ((wrap64 (3 * x1)) + x0)) then (if (wrap64 ((wrap64 (3 * x1)) + x0)) < 9 then (some (bt (⟨#[49, 50, 51, 52, 53, 54, 55, 56, 57]⟩ : ByteArray) (wrap64 ((wrap64 (3 * x1)) + x0)))) else (none)) else (none)) else (some 32))) else (some 32)))
def spec_wkAt.f (k : Nat) (a0 : Int) (a1 : Int) : Option (Int) := if a0 = 1 then (spec_wkAt.j0 k a0 a1 (a1 == 3)) else (spec_wkAt.j0 k a0 a1 false)
theorem spec_wkAt.mono_l : ∀ k, (∀ y0 y1 y2, LeO (spec_wkAt.j0 k y0 y1 y2) (spec_wkAt.j0 (k + 1) y0 y1 y2))
 | 0 => by intros; intro r h; simp [spec_wkAt.j0] at h
 | k + 1 => by
  have ih0 := spec_wkAt.mono_l k
  ·
   intro y0 y1 y2
   unfold spec_wkAt.j0
   repeat' first
   | (with_reducible exact ih0 _ _ _)
   | (with_reducible exact LeO.refl _)
   | (with_reducible exact LeO.none _)
   | (with_reducible refine LeO.ite ?_ ?_)
   | (with_reducible refine LeO.bind ?_ (fun _ => ?_))
   | exact ih0 _ _ _
   | exact LeO.none _
   | refine LeO.ite ?_ ?_
   | refine LeO.bind ?_ (fun _ => ?_)
theorem spec_wkAt.mono : ∀ y0 y1 k, LeO (spec_wkAt.f k y0 y1) (spec_wkAt.f (k + 1) y0 y1) := by
 intro y0 y1 k
 have ih0 := spec_wkAt.mono_l k
 unfold spec_wkAt.f
 repeat' first
   | (with_reducible exact ih0 _ _ _)
   | (with_reducible exact LeO.refl _)
   | (with_reducible exact LeO.none _)
   | (with_reducible refine LeO.ite ?_ ?_)
   | (with_reducible refine LeO.bind ?_ (fun _ => ?_))
   | exact ih0 _ _ _
   | exact LeO.none _
   | refine LeO.ite ?_ ?_
   | refine LeO.bind ?_ (fun _ => ?_)
set_option maxHeartbeats 8000000 in
set_option maxRecDepth 100000 in
theorem spec_wkAt.calls (k : Nat) (a0 : Int) (a1 : Int) (r : Int) (w : World) (h : spec_wkAt.f k a0 a1 = some r) :
  Calls Tryd.prog 42 #[.int .i64 a0, .int .i64 a1] w fun e w' => e = .returned (.int .u8 r) ∧ Drawn0 w w' := by
 have H : (if a0 = 1 then (spec_wkAt.j0 k a0 a1 (a1 == 3)) else (spec_wkAt.j0 k a0 a1 false)) = some r := h
 clear h
 have HC3 := Aside0.mk H
 clear H
 go_enter Tryd.func42, Tryd.ntmps42
 go_upto_region 1 with (fail)
 go_cut [5] (fun v5 wc => ∃ (kq : Nat) (x5_2 : Bool), v5 = .bool x5_2 ∧ Aside0 (spec_wkAt.j0 kq a0 a1 x5_2 = some r) ∧ Aside0 (kq ≤ k) ∧ Drawn0 w wc)
 case first =>
  have H := HC3.out
  clear HC3
  by_cases c4 : a0 = 1
  ·
   rw [if_pos c4] at H
   have c4b0 : (a0 == 1) = true := beq_iff_eq.mpr c4
   have c4b1 : (a0 != 1) = false := bne_eq_false_iff_eq.mpr c4
   clear c4
   (first | rw [c4b0] | (simp only [i64_w, i32_w]; rw [c4b0]) | skip)
   have H' := Aside0.mk H
   clear H
   go_wp2
   go_meet
   case rel => exact ⟨_, ((a1 == 3)), (by first | rfl | (simp; done) | (simp [*]; done)), H', ⟨by first | omega | exact Nat.le_refl _⟩, by repeat (first | exact Drawn0.refl _ | apply Drawn0.step)⟩
  ·
   rw [if_neg c4] at H
   have c4b0 : (a0 == 1) = false := beq_eq_false_iff_ne.mpr c4
   have c4b1 : (a0 != 1) = true := bne_iff_ne.mpr c4
   (first | rw [c4b0] | (simp only [i64_w, i32_w]; rw [c4b0]) | skip)
   have H' := Aside0.mk H
   clear H
   go_wp2
   go_meet
   case rel => exact ⟨_, (false), (by first | rfl | (simp; done) | (simp [*]; done)), H', ⟨by first | omega | exact Nat.le_refl _⟩, by repeat (first | exact Drawn0.refl _ | apply Drawn0.step)⟩
 case rest =>
  clear HC3
  try clear p2
  try clear c4
  try clear c4b0
  try clear c4b1
  obtain ⟨kq, x5_2, rfl, HA, HJ2, ⟨mc2, rfl⟩⟩ := hcut
  cases kq with
  | zero => exact absurd HA.out (by simp [spec_wkAt.j0])
  | succ kj2 =>
   have H := HA.out
   clear HA
   simp only [spec_wkAt.j0] at H
   by_cases c5 : x5_2 = true
   ·
    subst c5
    have H1 : (some 48) = some r := by rw [if_pos rfl] at H; exact H
    clear H
    have H := H1
    clear H1
    obtain rfl := Option.some.inj H
    go_wp2
    go_ret
    exact ⟨by first | rfl | (simp; done) | (simp [*]; done), by repeat (first | exact Drawn0.refl _ | apply Drawn0.step)⟩
   ·
    replace c5 := Bool.eq_false_iff.mpr c5
    subst c5
    have H1 : ((spec_l1In.f a0 0 2).bind fun t101 => (if t101 = true then ((spec_l1In.f a1 0 2).bind fun t102 => (if t102 = true then (if 0 ≤ (wrap64 ((wrap64 (3 * a1)) + a0)) then (if (wrap64 ((wrap64 (3 * a1)) + a0)) < 9 then (some (bt (⟨#[49, 50, 51, 52, 53, 54, 55, 56, 57]⟩ : ByteArray) (wrap64 ((wrap64 (3 * a1)) + a0)))) else (none)) else (none)) else (some 32))) else (some 32))) = some r := by rw [if_neg (show ¬ (false = true) by decide)] at H; exact H
    clear H
    have H := H1
    clear H1
    replace H := Option.bind_eq_some_iff.mp H
    obtain ⟨t101, A60, H⟩ := H
    replace H : (if t101 = true then ((spec_l1In.f a1 0 2).bind fun t102 => (if t102 = true then (if 0 ≤ (wrap64 ((wrap64 (3 * a1)) + a0)) then (if (wrap64 ((wrap64 (3 * a1)) + a0)) < 9 then (some (bt (⟨#[49, 50, 51, 52, 53, 54, 55, 56, 57]⟩ : ByteArray) (wrap64 ((wrap64 (3 * a1)) + a0)))) else (none)) else (none)) else (some 32))) else (some 32)) = some r := H
    have A6 := Aside0.mk A60
    clear A60
    by_cases c7 : t101 = true
    ·
     subst c7
     have H1 : ((spec_l1In.f a1 0 2).bind fun t102 => (if t102 = true then (if 0 ≤ (wrap64 ((wrap64 (3 * a1)) + a0)) then (if (wrap64 ((wrap64 (3 * a1)) + a0)) < 9 then (some (bt (⟨#[49, 50, 51, 52, 53, 54, 55, 56, 57]⟩ : ByteArray) (wrap64 ((wrap64 (3 * a1)) + a0)))) else (none)) else (none)) else (some 32))) = some r := by rw [if_pos rfl] at H; exact H
     clear H
     have H := H1
     clear H1
     replace H := Option.bind_eq_some_iff.mp H
     obtain ⟨t102, A80, H⟩ := H
     replace H : (if t102 = true then (if 0 ≤ (wrap64 ((wrap64 (3 * a1)) + a0)) then (if (wrap64 ((wrap64 (3 * a1)) + a0)) < 9 then (some (bt (⟨#[49, 50, 51, 52, 53, 54, 55, 56, 57]⟩ : ByteArray) (wrap64 ((wrap64 (3 * a1)) + a0)))) else (none)) else (none)) else (some 32)) = some r := H
     have A8 := Aside0.mk A80
     clear A80
     by_cases c9 : t102 = true
     ·
      subst c9
      have H1 : (if 0 ≤ (wrap64 ((wrap64 (3 * a1)) + a0)) then (if (wrap64 ((wrap64 (3 * a1)) + a0)) < 9 then (some (bt (⟨#[49, 50, 51, 52, 53, 54, 55, 56, 57]⟩ : ByteArray) (wrap64 ((wrap64 (3 * a1)) + a0)))) else (none)) else (none)) = some r := by rw [if_pos rfl] at H; exact H
      clear H
      have H := H1
      clear H1
      obtain ⟨ji10, hji10⟩ : ∃ j_ : Int, (wrap64 ((wrap64 (3 * a1)) + a0)) = j_ := ⟨_, rfl⟩
      replace H : (if 0 ≤ (ji10) then (if (ji10) < 9 then (some (bt (⟨#[49, 50, 51, 52, 53, 54, 55, 56, 57]⟩ : ByteArray) (ji10))) else (none)) else (none)) = some r := by first | (rw [hji10] at H; exact H) | (simp only [hji10] at H ⊢; exact H)
      (try rw [hji10] at A6)
      (try rw [hji10] at A8)
      have hji10w : (IntKind.i64.wrap ((wrap64 (3 * a1)) + a0)) = ji10 := (i64_w _).trans hji10
      by_cases c11 : 0 ≤ (ji10)
      ·
       rw [if_pos c11] at H
       have c11b0 : decide (0 ≤ (ji10)) = true := decide_eq_true c11
       clear c11
       by_cases c12 : (ji10) < 9
       ·
        rw [if_pos c12] at H
        have c12b0 : decide ((ji10) < 9) = true := decide_eq_true c12
        clear c12
        obtain rfl := Option.some.inj H
        go_wp2_with (first | ((with_reducible refine gate_callee (f := 10) rfl ?_); refine goesL_ (some 14) rfl rfl Tryd.func10 (by kernel_rfl) rfl #[.int .i64 a0, .int .i64 0, .int .i64 2] rfl (by (try simp only [List.map_toArray, List.map_cons, List.map_nil]); first | done | rfl | (simp only [List.length_drop, List.length_take]; rfl)) ?_; (with_reducible refine (spec_l1In.calls a0 0 2 true _ A6.out).mono ?_); rintro e w' ⟨rfl, ⟨nd, rfl⟩⟩; refine ⟨_, rfl, ?_⟩) | (go_at_call 10; (with_reducible refine (spec_l1In.calls a1 0 2 true _ A8.out).mono ?_); rintro e w' ⟨rfl, ⟨nd, rfl⟩⟩; have p13 : 0 ≤ ((ji10) : Int) := of_decide_eq_true (by first | (with_reducible assumption) | assumption); have q13 : (ji10) < (9 : Int) := of_decide_eq_true (by first | (with_reducible assumption) | assumption); have hx13 := bt_at (⟨#[49, 50, 51, 52, 53, 54, 55, 56, 57]⟩ : ByteArray) (ji10); replace p13 := eq_true p13; replace q13 := eq_true q13))
        go_ret
        exact ⟨by first | rfl | (simp; done) | (simp only [← hji10] <;> (first | rfl | simp)) | (simp [*]; done), by repeat (first | exact Drawn0.refl _ | apply Drawn0.step)⟩
       ·
        rw [if_neg c12] at H
        exact absurd H (by simp)
      ·
       rw [if_neg c11] at H
       exact absurd H (by simp)
     ·
      replace c9 := Bool.eq_false_iff.mpr c9
      subst c9
      have H1 : (some 32) = some r := by rw [if_neg (show ¬ (false = true) by decide)] at H; exact H
      clear H
      have H := H1
      clear H1
      obtain rfl := Option.some.inj H
      go_wp2_with (first | ((with_reducible refine gate_callee (f := 10) rfl ?_); refine goesL_ (some 14) rfl rfl Tryd.func10 (by kernel_rfl) rfl #[.int .i64 a0, .int .i64 0, .int .i64 2] rfl (by (try simp only [List.map_toArray, List.map_cons, List.map_nil]); first | done | rfl | (simp only [List.length_drop, List.length_take]; rfl)) ?_; (with_reducible refine (spec_l1In.calls a0 0 2 true _ A6.out).mono ?_); rintro e w' ⟨rfl, ⟨nd, rfl⟩⟩; refine ⟨_, rfl, ?_⟩) | (go_at_call 10; (with_reducible refine (spec_l1In.calls a1 0 2 false _ A8.out).mono ?_); rintro e w' ⟨rfl, ⟨nd, rfl⟩⟩))
      go_ret
      exact ⟨by first | rfl | (simp; done) | (simp [*]; done), by repeat (first | exact Drawn0.refl _ | apply Drawn0.step)⟩
    ·
     replace c7 := Bool.eq_false_iff.mpr c7
     subst c7
     have H1 : (some 32) = some r := by rw [if_neg (show ¬ (false = true) by decide)] at H; exact H
     clear H
     have H := H1
     clear H1
     obtain rfl := Option.some.inj H
     go_wp2_with (first | ((with_reducible refine gate_callee (f := 10) rfl ?_); refine goesL_ (some 14) rfl rfl Tryd.func10 (by kernel_rfl) rfl #[.int .i64 a0, .int .i64 0, .int .i64 2] rfl (by (try simp only [List.map_toArray, List.map_cons, List.map_nil]); first | done | rfl | (simp only [List.length_drop, List.length_take]; rfl)) ?_; (with_reducible refine (spec_l1In.calls a0 0 2 false _ A6.out).mono ?_); rintro e w' ⟨rfl, ⟨nd, rfl⟩⟩; refine ⟨_, rfl, ?_⟩))
     go_ret
     exact ⟨by first | rfl | (simp; done) | (simp [*]; done), by repeat (first | exact Drawn0.refl _ | apply Drawn0.step)⟩

end Go.Proofs.YtgmdahmfmpdegaaDoor.P

-- printed by xprint.py
namespace Go.Proofs.YtgmdahmfmpdegaaDoor.P
open Go.RowKit Go.Proofs.YtgmdahmfmpdegaaDoorW.PrintWords Go.Proofs.YtgmdahmfmpdegaaDoorW.PrintLast Go.Proofs.YtgmdahmfmpdegaaDoorW.PrintMore
attribute [local go_sem] max2_int min2_int max_two min_two max_three min_three max_four min_four   -- for this text's walks alone
set_option linter.unusedVariables false
set_option linter.unusedSimpArgs false

/-! ### spec_l1Most: function 49 -/
def spec_l1Most.f (a0 : Int) (a1 : Int) : Option (Int) := if a0 > a1 then (some a0) else (some a1)
set_option maxHeartbeats 8000000 in
set_option maxRecDepth 100000 in
theorem spec_l1Most.calls (a0 : Int) (a1 : Int) (r : Int) (w : World) (h : spec_l1Most.f a0 a1 = some r) :
  Calls Tryd.prog 49 #[.int .i64 a0, .int .i64 a1] w fun e w' => e = .returned (.int .i64 r) ∧ Drawn0 w w' := by
 have H : (if a0 > a1 then (some a0) else (some a1)) = some r := h
 clear h
 by_cases c3 : a0 > a1
 ·
  rw [if_pos c3] at H
  have c3b0 : decide (a1 < a0) = true := decide_eq_true c3
  clear c3
  obtain rfl := Option.some.inj H
  go_enter Tryd.func49, Tryd.ntmps49
  go_wp2
  go_ret
  exact ⟨by first | rfl | (simp; done) | (simp [*]; done), by repeat (first | exact Drawn0.refl _ | apply Drawn0.step)⟩
 ·
  rw [if_neg c3] at H
  have c3b0 : decide (a1 < a0) = false := decide_eq_false c3
  clear c3
  obtain rfl := Option.some.inj H
  go_enter Tryd.func49, Tryd.ntmps49
  go_wp2
  go_ret
  exact ⟨by first | rfl | (simp; done) | (simp [*]; done), by repeat (first | exact Drawn0.refl _ | apply Drawn0.step)⟩

end Go.Proofs.YtgmdahmfmpdegaaDoor.P

-- printed by xprint.py
namespace Go.Proofs.YtgmdahmfmpdegaaDoor.P
open Go.RowKit Go.Proofs.YtgmdahmfmpdegaaDoorW.PrintWords Go.Proofs.YtgmdahmfmpdegaaDoorW.PrintLast Go.Proofs.YtgmdahmfmpdegaaDoorW.PrintMore
attribute [local go_sem] max2_int min2_int max_two min_two max_three min_three max_four min_four   -- for this text's walks alone
set_option linter.unusedVariables false
set_option linter.unusedSimpArgs false

/-! ### spec_l1Abs: function 48 -/
def spec_l1Abs.f (a0 : Int) : Option (Int) := (spec_l1Most.f a0 (wrap64 (-a0))).bind fun t101 => (some t101)
set_option maxHeartbeats 8000000 in
set_option maxRecDepth 100000 in
theorem spec_l1Abs.calls (a0 : Int) (r : Int) (w : World) (h : spec_l1Abs.f a0 = some r) :
  Calls Tryd.prog 48 #[.int .i64 a0] w fun e w' => e = .returned (.int .i64 r) ∧ Drawn0 w w' := by
 have H : ((spec_l1Most.f a0 (wrap64 (-a0))).bind fun t101 => (some t101)) = some r := h
 clear h
 replace H := Option.bind_eq_some_iff.mp H
 obtain ⟨t101, A20, H⟩ := H
 replace H : (some t101) = some r := H
 have A2 := Aside0.mk A20
 clear A20
 obtain rfl := Option.some.inj H
 go_enter Tryd.func48, Tryd.ntmps48
 go_wp2_with (first | ((with_reducible refine gate_callee (f := 49) rfl ?_); refine goesL_ (some 6) rfl rfl Tryd.func49 (by kernel_rfl) rfl #[.int .i64 a0, .int .i64 (wrap64 (-a0))] rfl (by (try simp only [List.map_toArray, List.map_cons, List.map_nil]); first | done | rfl | (simp only [List.length_drop, List.length_take]; rfl)) ?_; (with_reducible refine (spec_l1Most.calls a0 (wrap64 (-a0)) t101 _ A2.out).mono ?_); rintro e w' ⟨rfl, ⟨nd, rfl⟩⟩; refine ⟨_, rfl, ?_⟩))
 go_ret
 exact ⟨by first | rfl | (simp; done) | (simp [*]; done), by repeat (first | exact Drawn0.refl _ | apply Drawn0.step)⟩

end Go.Proofs.YtgmdahmfmpdegaaDoor.P

-- printed by xprint.py
namespace Go.Proofs.YtgmdahmfmpdegaaDoor.P
open Go.RowKit Go.Proofs.YtgmdahmfmpdegaaDoorW.PrintWords Go.Proofs.YtgmdahmfmpdegaaDoorW.PrintLast Go.Proofs.YtgmdahmfmpdegaaDoorW.PrintMore
attribute [local go_sem] max2_int min2_int max_two min_two max_three min_three max_four min_four   -- for this text's walks alone
set_option linter.unusedVariables false
set_option linter.unusedSimpArgs false

/-! ### spec_wkCan: function 40 -/
def spec_wkCan.f (a0 : ByteArray) (a1 : Int) (a2 : Int) : Option (Bool) := (spec_l1Abs.f a1).bind fun t101 => ((spec_l1Abs.f a2).bind fun t102 => (if a0.toList = ([110] : List UInt8) then (some ((wrap64 (t101 * t102)) == 2)) else (if a0.toList = ([107] : List UInt8) then ((spec_l1Most.f t101 t102).bind fun t103 => (some (t103 == 1))) else (if a0.toList = ([114] : List UInt8) then (if (wrap64 (t101 * t102)) = 0 then (some (decide ((wrap64 (t101 + t102)) > 0))) else (some false)) else (if t101 = t102 then (some (decide (t101 > 0))) else (some false))))))
set_option maxHeartbeats 8000000 in
set_option maxRecDepth 100000 in
theorem spec_wkCan.calls (a0 : ByteArray) (a1 : Int) (a2 : Int) (r : Bool) (w : World) (h : spec_wkCan.f a0 a1 a2 = some r) :
  Calls Tryd.prog 40 #[.string a0, .int .i64 a1, .int .i64 a2] w fun e w' => e = .returned (.bool r) ∧ Drawn0 w w' := by
 have H : ((spec_l1Abs.f a1).bind fun t101 => ((spec_l1Abs.f a2).bind fun t102 => (if a0.toList = ([110] : List UInt8) then (some ((wrap64 (t101 * t102)) == 2)) else (if a0.toList = ([107] : List UInt8) then ((spec_l1Most.f t101 t102).bind fun t103 => (some (t103 == 1))) else (if a0.toList = ([114] : List UInt8) then (if (wrap64 (t101 * t102)) = 0 then (some (decide ((wrap64 (t101 + t102)) > 0))) else (some false)) else (if t101 = t102 then (some (decide (t101 > 0))) else (some false))))))) = some r := h
 clear h
 replace H := Option.bind_eq_some_iff.mp H
 obtain ⟨t101, A40, H⟩ := H
 replace H : ((spec_l1Abs.f a2).bind fun t102 => (if a0.toList = ([110] : List UInt8) then (some ((wrap64 (t101 * t102)) == 2)) else (if a0.toList = ([107] : List UInt8) then ((spec_l1Most.f t101 t102).bind fun t103 => (some (t103 == 1))) else (if a0.toList = ([114] : List UInt8) then (if (wrap64 (t101 * t102)) = 0 then (some (decide ((wrap64 (t101 + t102)) > 0))) else (some false)) else (if t101 = t102 then (some (decide (t101 > 0))) else (some false)))))) = some r := H
 have A4 := Aside0.mk A40
 clear A40
 replace H := Option.bind_eq_some_iff.mp H
 obtain ⟨t102, A50, H⟩ := H
 replace H : (if a0.toList = ([110] : List UInt8) then (some ((wrap64 (t101 * t102)) == 2)) else (if a0.toList = ([107] : List UInt8) then ((spec_l1Most.f t101 t102).bind fun t103 => (some (t103 == 1))) else (if a0.toList = ([114] : List UInt8) then (if (wrap64 (t101 * t102)) = 0 then (some (decide ((wrap64 (t101 + t102)) > 0))) else (some false)) else (if t101 = t102 then (some (decide (t101 > 0))) else (some false))))) = some r := H
 have A5 := Aside0.mk A50
 clear A50
 by_cases c6 : a0.toList = ([110] : List UInt8)
 ·
  rw [if_pos c6] at H
  have c6b0 : (a0.toList == ([110] : List UInt8)) = true := beq_iff_eq.mpr c6
  have c6b1 : (a0.toList != ([110] : List UInt8)) = false := bne_eq_false_iff_eq.mpr c6
  clear c6
  obtain rfl := Option.some.inj H
  go_enter Tryd.func40, Tryd.ntmps40
  go_wp2_with (first | ((with_reducible refine gate_callee (f := 48) rfl ?_); refine goesL_ (some 8) rfl rfl Tryd.func48 (by kernel_rfl) rfl #[.int .i64 a1] rfl (by (try simp only [List.map_toArray, List.map_cons, List.map_nil]); first | done | rfl | (simp only [List.length_drop, List.length_take]; rfl)) ?_; (with_reducible refine (spec_l1Abs.calls a1 t101 _ A4.out).mono ?_); rintro e w' ⟨rfl, ⟨nd, rfl⟩⟩; refine ⟨_, rfl, ?_⟩) | ((with_reducible refine gate_callee (f := 48) rfl ?_); refine goesL_ (some 10) rfl rfl Tryd.func48 (by kernel_rfl) rfl #[.int .i64 a2] rfl (by (try simp only [List.map_toArray, List.map_cons, List.map_nil]); first | done | rfl | (simp only [List.length_drop, List.length_take]; rfl)) ?_; (with_reducible refine (spec_l1Abs.calls a2 t102 _ A5.out).mono ?_); rintro e w' ⟨rfl, ⟨nd, rfl⟩⟩; refine ⟨_, rfl, ?_⟩))
  go_ret
  exact ⟨by first | rfl | (simp; done) | (simp [*]; done), by repeat (first | exact Drawn0.refl _ | apply Drawn0.step)⟩
 ·
  rw [if_neg c6] at H
  have c6b0 : (a0.toList == ([110] : List UInt8)) = false := beq_eq_false_iff_ne.mpr c6
  have c6b1 : (a0.toList != ([110] : List UInt8)) = true := bne_iff_ne.mpr c6
  by_cases c7 : a0.toList = ([107] : List UInt8)
  ·
   rw [if_pos c7] at H
   have c7b0 : (a0.toList == ([107] : List UInt8)) = true := beq_iff_eq.mpr c7
   have c7b1 : (a0.toList != ([107] : List UInt8)) = false := bne_eq_false_iff_eq.mpr c7
   clear c7
   replace H := Option.bind_eq_some_iff.mp H
   obtain ⟨t103, A80, H⟩ := H
   replace H : (some (t103 == 1)) = some r := H
   have A8 := Aside0.mk A80
   clear A80
   obtain rfl := Option.some.inj H
   go_enter Tryd.func40, Tryd.ntmps40
   go_wp2_with (first | ((with_reducible refine gate_callee (f := 48) rfl ?_); refine goesL_ (some 8) rfl rfl Tryd.func48 (by kernel_rfl) rfl #[.int .i64 a1] rfl (by (try simp only [List.map_toArray, List.map_cons, List.map_nil]); first | done | rfl | (simp only [List.length_drop, List.length_take]; rfl)) ?_; (with_reducible refine (spec_l1Abs.calls a1 t101 _ A4.out).mono ?_); rintro e w' ⟨rfl, ⟨nd, rfl⟩⟩; refine ⟨_, rfl, ?_⟩) | ((with_reducible refine gate_callee (f := 48) rfl ?_); refine goesL_ (some 10) rfl rfl Tryd.func48 (by kernel_rfl) rfl #[.int .i64 a2] rfl (by (try simp only [List.map_toArray, List.map_cons, List.map_nil]); first | done | rfl | (simp only [List.length_drop, List.length_take]; rfl)) ?_; (with_reducible refine (spec_l1Abs.calls a2 t102 _ A5.out).mono ?_); rintro e w' ⟨rfl, ⟨nd, rfl⟩⟩; refine ⟨_, rfl, ?_⟩) | ((with_reducible refine gate_callee (f := 49) rfl ?_); refine goesL_ (some 22) rfl rfl Tryd.func49 (by kernel_rfl) rfl #[.int .i64 t101, .int .i64 t102] rfl (by (try simp only [List.map_toArray, List.map_cons, List.map_nil]); first | done | rfl | (simp only [List.length_drop, List.length_take]; rfl)) ?_; (with_reducible refine (spec_l1Most.calls t101 t102 t103 _ A8.out).mono ?_); rintro e w' ⟨rfl, ⟨nd, rfl⟩⟩; refine ⟨_, rfl, ?_⟩))
   go_ret
   exact ⟨by first | rfl | (simp; done) | (simp [*]; done), by repeat (first | exact Drawn0.refl _ | apply Drawn0.step)⟩
  ·
   rw [if_neg c7] at H
   have c7b0 : (a0.toList == ([107] : List UInt8)) = false := beq_eq_false_iff_ne.mpr c7
   have c7b1 : (a0.toList != ([107] : List UInt8)) = true := bne_iff_ne.mpr c7
   by_cases c9 : a0.toList = ([114] : List UInt8)
   ·
    rw [if_pos c9] at H
    have c9b0 : (a0.toList == ([114] : List UInt8)) = true := beq_iff_eq.mpr c9
    have c9b1 : (a0.toList != ([114] : List UInt8)) = false := bne_eq_false_iff_eq.mpr c9
    clear c9
    by_cases c10 : (wrap64 (t101 * t102)) = 0
    ·
     rw [if_pos c10] at H
     have c10b0 : ((wrap64 (t101 * t102)) == 0) = true := beq_iff_eq.mpr c10
     have c10b1 : ((wrap64 (t101 * t102)) != 0) = false := bne_eq_false_iff_eq.mpr c10
     clear c10
     obtain rfl := Option.some.inj H
     go_enter Tryd.func40, Tryd.ntmps40
     go_wp2_with (first | ((with_reducible refine gate_callee (f := 48) rfl ?_); refine goesL_ (some 8) rfl rfl Tryd.func48 (by kernel_rfl) rfl #[.int .i64 a1] rfl (by (try simp only [List.map_toArray, List.map_cons, List.map_nil]); first | done | rfl | (simp only [List.length_drop, List.length_take]; rfl)) ?_; (with_reducible refine (spec_l1Abs.calls a1 t101 _ A4.out).mono ?_); rintro e w' ⟨rfl, ⟨nd, rfl⟩⟩; refine ⟨_, rfl, ?_⟩) | ((with_reducible refine gate_callee (f := 48) rfl ?_); refine goesL_ (some 10) rfl rfl Tryd.func48 (by kernel_rfl) rfl #[.int .i64 a2] rfl (by (try simp only [List.map_toArray, List.map_cons, List.map_nil]); first | done | rfl | (simp only [List.length_drop, List.length_take]; rfl)) ?_; (with_reducible refine (spec_l1Abs.calls a2 t102 _ A5.out).mono ?_); rintro e w' ⟨rfl, ⟨nd, rfl⟩⟩; refine ⟨_, rfl, ?_⟩))
     go_ret
     exact ⟨by first | rfl | (simp; done) | (simp [*]; done), by repeat (first | exact Drawn0.refl _ | apply Drawn0.step)⟩
    ·
     rw [if_neg c10] at H
     have c10b0 : ((wrap64 (t101 * t102)) == 0) = false := beq_eq_false_iff_ne.mpr c10
     have c10b1 : ((wrap64 (t101 * t102)) != 0) = true := bne_iff_ne.mpr c10
     obtain rfl := Option.some.inj H
     go_enter Tryd.func40, Tryd.ntmps40
     go_wp2_with (first | ((with_reducible refine gate_callee (f := 48) rfl ?_); refine goesL_ (some 8) rfl rfl Tryd.func48 (by kernel_rfl) rfl #[.int .i64 a1] rfl (by (try simp only [List.map_toArray, List.map_cons, List.map_nil]); first | done | rfl | (simp only [List.length_drop, List.length_take]; rfl)) ?_; (with_reducible refine (spec_l1Abs.calls a1 t101 _ A4.out).mono ?_); rintro e w' ⟨rfl, ⟨nd, rfl⟩⟩; refine ⟨_, rfl, ?_⟩) | ((with_reducible refine gate_callee (f := 48) rfl ?_); refine goesL_ (some 10) rfl rfl Tryd.func48 (by kernel_rfl) rfl #[.int .i64 a2] rfl (by (try simp only [List.map_toArray, List.map_cons, List.map_nil]); first | done | rfl | (simp only [List.length_drop, List.length_take]; rfl)) ?_; (with_reducible refine (spec_l1Abs.calls a2 t102 _ A5.out).mono ?_); rintro e w' ⟨rfl, ⟨nd, rfl⟩⟩; refine ⟨_, rfl, ?_⟩))
     go_ret
     exact ⟨by first | rfl | (simp; done) | (simp [*]; done), by repeat (first | exact Drawn0.refl _ | apply Drawn0.step)⟩
   ·
    rw [if_neg c9] at H
    have c9b0 : (a0.toList == ([114] : List UInt8)) = false := beq_eq_false_iff_ne.mpr c9
    have c9b1 : (a0.toList != ([114] : List UInt8)) = true := bne_iff_ne.mpr c9
    by_cases c11 : t101 = t102
    ·
     rw [if_pos c11] at H
     have c11b0 : (t101 == t102) = true := beq_iff_eq.mpr c11
     have c11b1 : (t101 != t102) = false := bne_eq_false_iff_eq.mpr c11
     clear c11
     obtain rfl := Option.some.inj H
     go_enter Tryd.func40, Tryd.ntmps40
     go_wp2_with (first | ((with_reducible refine gate_callee (f := 48) rfl ?_); refine goesL_ (some 8) rfl rfl Tryd.func48 (by kernel_rfl) rfl #[.int .i64 a1] rfl (by (try simp only [List.map_toArray, List.map_cons, List.map_nil]); first | done | rfl | (simp only [List.length_drop, List.length_take]; rfl)) ?_; (with_reducible refine (spec_l1Abs.calls a1 t101 _ A4.out).mono ?_); rintro e w' ⟨rfl, ⟨nd, rfl⟩⟩; refine ⟨_, rfl, ?_⟩) | ((with_reducible refine gate_callee (f := 48) rfl ?_); refine goesL_ (some 10) rfl rfl Tryd.func48 (by kernel_rfl) rfl #[.int .i64 a2] rfl (by (try simp only [List.map_toArray, List.map_cons, List.map_nil]); first | done | rfl | (simp only [List.length_drop, List.length_take]; rfl)) ?_; (with_reducible refine (spec_l1Abs.calls a2 t102 _ A5.out).mono ?_); rintro e w' ⟨rfl, ⟨nd, rfl⟩⟩; refine ⟨_, rfl, ?_⟩))
     go_ret
     exact ⟨by first | rfl | (simp; done) | (simp [*]; done), by repeat (first | exact Drawn0.refl _ | apply Drawn0.step)⟩
    ·
     rw [if_neg c11] at H
     have c11b0 : (t101 == t102) = false := beq_eq_false_iff_ne.mpr c11
     have c11b1 : (t101 != t102) = true := bne_iff_ne.mpr c11
     obtain rfl := Option.some.inj H
     go_enter Tryd.func40, Tryd.ntmps40
     go_wp2_with (first | ((with_reducible refine gate_callee (f := 48) rfl ?_); refine goesL_ (some 8) rfl rfl Tryd.func48 (by kernel_rfl) rfl #[.int .i64 a1] rfl (by (try simp only [List.map_toArray, List.map_cons, List.map_nil]); first | done | rfl | (simp only [List.length_drop, List.length_take]; rfl)) ?_; (with_reducible refine (spec_l1Abs.calls a1 t101 _ A4.out).mono ?_); rintro e w' ⟨rfl, ⟨nd, rfl⟩⟩; refine ⟨_, rfl, ?_⟩) | ((with_reducible refine gate_callee (f := 48) rfl ?_); refine goesL_ (some 10) rfl rfl Tryd.func48 (by kernel_rfl) rfl #[.int .i64 a2] rfl (by (try simp only [List.map_toArray, List.map_cons, List.map_nil]); first | done | rfl | (simp only [List.length_drop, List.length_take]; rfl)) ?_; (with_reducible refine (spec_l1Abs.calls a2 t102 _ A5.out).mono ?_); rintro e w' ⟨rfl, ⟨nd, rfl⟩⟩; refine ⟨_, rfl, ?_⟩))
     go_ret
     exact ⟨by first | rfl | (simp; done) | (simp [*]; done), by repeat (first | exact Drawn0.refl _ | apply Drawn0.step)⟩

end Go.Proofs.YtgmdahmfmpdegaaDoor.P

-- printed by xprint.py
namespace Go.Proofs.YtgmdahmfmpdegaaDoor.P
open Go.RowKit Go.Proofs.YtgmdahmfmpdegaaDoorW.PrintWords Go.Proofs.YtgmdahmfmpdegaaDoorW.PrintLast Go.Proofs.YtgmdahmfmpdegaaDoorW.PrintMore
attribute [local go_sem] max2_int min2_int max_two min_two max_three min_three max_four min_four   -- for this text's walks alone
set_option linter.unusedVariables false
set_option linter.unusedSimpArgs false

/-! ### spec_wkPlace: function 39 -/
def spec_wkPlace.f (a0 : Int) : Option (Int × Int) := if a0 = 48 then (some (1, 3)) else (some (((a0 - 49) % 256) % 3, ((a0 - 49) % 256) / 3))
set_option maxHeartbeats 8000000 in
set_option maxRecDepth 100000 in
theorem spec_wkPlace.calls (a0 : Int) (r1 : Int) (r2 : Int) (w : World) (h : spec_wkPlace.f a0 = some (r1, r2)) :
  Calls Tryd.prog 39 #[.int .u8 a0] w fun e w' => e = .returned (.tuple #[.int .i64 r1, .int .i64 r2]) ∧ Drawn0 w w' := by
 have H : (if a0 = 48 then (some (1, 3)) else (some (((a0 - 49) % 256) % 3, ((a0 - 49) % 256) / 3))) = some (r1, r2) := h
 clear h
 by_cases c2 : a0 = 48
 ·
  rw [if_pos c2] at H
  have c2b0 : (a0 == 48) = true := beq_iff_eq.mpr c2
  have c2b1 : (a0 != 48) = false := bne_eq_false_iff_eq.mpr c2
  clear c2
  simp only [Option.some.injEq, Prod.mk.injEq] at H
  obtain ⟨rfl, rfl⟩ := H
  go_enter Tryd.func39, Tryd.ntmps39
  go_wp2
  go_ret2
  exact ⟨by first | rfl | (simp; done) | (simp [*]; done), by repeat (first | exact Drawn0.refl _ | apply Drawn0.step)⟩
 ·
  rw [if_neg c2] at H
  have c2b0 : (a0 == 48) = false := beq_eq_false_iff_ne.mpr c2
  have c2b1 : (a0 != 48) = true := bne_iff_ne.mpr c2
  simp only [Option.some.injEq, Prod.mk.injEq] at H
  obtain ⟨rfl, rfl⟩ := H
  go_enter Tryd.func39, Tryd.ntmps39
  go_wp2
  go_ret2
  exact ⟨by first | rfl | (simp; done) | (simp [*]; done), by repeat (first | exact Drawn0.refl _ | apply Drawn0.step)⟩

end Go.Proofs.YtgmdahmfmpdegaaDoor.P

-- printed by xprint.py
namespace Go.Proofs.YtgmdahmfmpdegaaDoor.P
open Go.RowKit Go.Proofs.YtgmdahmfmpdegaaDoorW.PrintWords Go.Proofs.YtgmdahmfmpdegaaDoorW.PrintLast Go.Proofs.YtgmdahmfmpdegaaDoorW.PrintMore
attribute [local go_sem] max2_int min2_int max_two min_two max_three min_three max_four min_four   -- for this text's walks alone
set_option linter.unusedVariables false
set_option linter.unusedSimpArgs false

/-! ### spec_wkSign: function 41 -/
def spec_wkSign.f (a0 : Int) : Option (Int) := if a0 > 0 then (some 1) else (if a0 < 0 then (some (-1)) else (some 0))
set_option maxHeartbeats 8000000 in
set_option maxRecDepth 100000 in
theorem spec_wkSign.calls (a0 : Int) (r : Int) (w : World) (h : spec_wkSign.f a0 = some r) :
  Calls Tryd.prog 41 #[.int .i64 a0] w fun e w' => e = .returned (.int .i64 r) ∧ Drawn0 w w' := by
 have H : (if a0 > 0 then (some 1) else (if a0 < 0 then (some (-1)) else (some 0))) = some r := h
 clear h
 by_cases c2 : a0 > 0
 ·
  rw [if_pos c2] at H
  have c2b0 : decide (0 < a0) = true := decide_eq_true c2
  clear c2
  obtain rfl := Option.some.inj H
  go_enter Tryd.func41, Tryd.ntmps41
  go_wp2
  go_ret
  exact ⟨by first | rfl | (simp; done) | (simp [*]; done), by repeat (first | exact Drawn0.refl _ | apply Drawn0.step)⟩
 ·
  rw [if_neg c2] at H
  have c2b0 : decide (0 < a0) = false := decide_eq_false c2
  clear c2
  by_cases c3 : a0 < 0
  ·
   rw [if_pos c3] at H
   have c3b0 : decide (a0 < 0) = true := decide_eq_true c3
   clear c3
   obtain rfl := Option.some.inj H
   go_enter Tryd.func41, Tryd.ntmps41
   go_wp2
   go_ret
   exact ⟨by first | rfl | (simp; done) | (simp [*]; done), by repeat (first | exact Drawn0.refl _ | apply Drawn0.step)⟩
  ·
   rw [if_neg c3] at H
   have c3b0 : decide (a0 < 0) = false := decide_eq_false c3
   clear c3
   obtain rfl := Option.some.inj H
   go_enter Tryd.func41, Tryd.ntmps41
   go_wp2
   go_ret
   exact ⟨by first | rfl | (simp; done) | (simp [*]; done), by repeat (first | exact Drawn0.refl _ | apply Drawn0.step)⟩

end Go.Proofs.YtgmdahmfmpdegaaDoor.P

-- printed by xprint.py
namespace Go.Proofs.YtgmdahmfmpdegaaDoor.P
open Go.RowKit Go.Proofs.YtgmdahmfmpdegaaDoorW.PrintWords Go.Proofs.YtgmdahmfmpdegaaDoorW.PrintLast Go.Proofs.YtgmdahmfmpdegaaDoorW.PrintMore
attribute [local go_sem] max2_int min2_int max_two min_two max_three min_three max_four min_four   -- for this text's walks alone
set_option linter.unusedVariables false
set_option linter.unusedSimpArgs false

/-! ### spec_wkGoes: function 31 -/
mutual
def spec_wkGoes.l0 : Nat → Int → Int → Int → Int → Option (Bool)
 | 0, _, _, _, _ => none
 | k + 1, x7, x8, x9, x10 => if x7 = x9 then (spec_wkGoes.j1 k x7 x8 x9 x10 (x8 != x10)) else (spec_wkGoes.j1 k x7 x8 x9 x10 true)
def spec_wkGoes.j1 : Nat → Int → Int → Int → Int → Bool → Option (Bool)
 | 0, _, _, _, _, _ => none
 | k + 1, x7, x8, x9, x10, x39 => if x39 = true then ((spec_wkSign.f (wrap64 (x9 - x7))).bind fun t106 => ((spec_wkSign.f (wrap64 (x10 - x8))).bind fun t107 => ((spec_wkAt.f k (wrap64 (x7 + t106)) (wrap64 (x8 + t107))).bind fun t108 => (if t108 = 32 then (some false) else (spec_wkGoes.l0 k (wrap64 (x7 + t106)) (wrap64 (x8 + t107)) x9 x10))))) else (some true)
end
def spec_wkGoes.f (k : Nat) (a0 : ByteArray) (a1 : Int) (a2 : Int) : Option (Bool) := (spec_wkPlace.f a1).bind fun bt101 => ((spec_wkPlace.f a2).bind fun bt103 => ((spec_wkCan.f a0 (wrap64 (bt103.1 - bt101.1)) (wrap64 (bt103.2 - bt101.2))).bind fun t105 => (if t105 = true then (if a0.toList = ([110] : List UInt8) then (some true) else (spec_wkGoes.l0 k bt101.1 bt101.2 bt103.1 bt103.2)) else (some false))))
theorem spec_wkGoes.mono_l : ∀ k, (∀ y0 y1 y2 y3, LeO (spec_wkGoes.l0 k y0 y1 y2 y3) (spec_wkGoes.l0 (k + 1) y0 y1 y2 y3)) ∧ (∀ y0 y1 y2 y3 y4, LeO (spec_wkGoes.j1 k y0 y1 y2 y3 y4) (spec_wkGoes.j1 (k + 1) y0 y1 y2 y3 y4))
 | 0 => ⟨by intros; intro r h; simp [spec_wkGoes.l0] at h, by intros; intro r h; simp [spec_wkGoes.j1] at h⟩
 | k + 1 => by
  obtain ⟨ih0, ih1⟩ := spec_wkGoes.mono_l k
  refine ⟨?_, ?_⟩
  ·
   intro y0 y1 y2 y3
   unfold spec_wkGoes.l0
   repeat' first
   | (with_reducible exact ih0 _ _ _ _)
   | (with_reducible exact ih1 _ _ _ _ _)
   | (with_reducible exact spec_wkAt.mono _ _ _)
   | (with_reducible exact LeO.refl _)
   | (with_reducible exact LeO.none _)
   | (with_reducible refine LeO.ite ?_ ?_)
   | (with_reducible refine LeO.bind ?_ (fun _ => ?_))
   | exact ih0 _ _ _ _
   | exact ih1 _ _ _ _ _
   | exact spec_wkAt.mono _ _ _
   | exact LeO.none _
   | refine LeO.ite ?_ ?_
   | refine LeO.bind ?_ (fun _ => ?_)
  ·
   intro y0 y1 y2 y3 y4
   unfold spec_wkGoes.j1
   repeat' first
   | (with_reducible exact ih0 _ _ _ _)
   | (with_reducible exact ih1 _ _ _ _ _)
   | (with_reducible exact spec_wkAt.mono _ _ _)
   | (with_reducible exact LeO.refl _)
   | (with_reducible exact LeO.none _)
   | (with_reducible refine LeO.ite ?_ ?_)
   | (with_reducible refine LeO.bind ?_ (fun _ => ?_))
   | exact ih0 _ _ _ _
   | exact ih1 _ _ _ _ _
   | exact spec_wkAt.mono _ _ _
   | exact LeO.none _
   | refine LeO.ite ?_ ?_
   | refine LeO.bind ?_ (fun _ => ?_)
theorem spec_wkGoes.mono : ∀ y0 y1 y2 k, LeO (spec_wkGoes.f k y0 y1 y2) (spec_wkGoes.f (k + 1) y0 y1 y2) := by
 intro y0 y1 y2 k
 obtain ⟨ih0, ih1⟩ := spec_wkGoes.mono_l k
 unfold spec_wkGoes.f
 repeat' first
   | (with_reducible exact ih0 _ _ _ _)
   | (with_reducible exact ih1 _ _ _ _ _)
   | (with_reducible exact spec_wkAt.mono _ _ _)
   | (with_reducible exact LeO.refl _)
   | (with_reducible exact LeO.none _)
   | (with_reducible refine LeO.ite ?_ ?_)
   | (with_reducible refine LeO.bind ?_ (fun _ => ?_))
   | exact ih0 _ _ _ _
   | exact ih1 _ _ _ _ _
   | exact spec_wkAt.mono _ _ _
   | exact LeO.none _
   | refine LeO.ite ?_ ?_
   | refine LeO.bind ?_ (fun _ => ?_)
set_option maxHeartbeats 8000000 in
set_option maxRecDepth 100000 in
theorem spec_wkGoes.calls (k : Nat) (a0 : ByteArray) (a1 : Int) (a2 : Int) (r : Bool) (w : World) (h : spec_wkGoes.f k a0 a1 a2 = some r) :
  Calls Tryd.prog 31 #[.string a0, .int .u8 a1, .int .u8 a2] w fun e w' => e = .returned (.bool r) ∧ Drawn0 w w' := by
 have H : ((spec_wkPlace.f a1).bind fun bt101 => ((spec_wkPlace.f a2).bind fun bt103 => ((spec_wkCan.f a0 (wrap64 (bt103.1 - bt101.1)) (wrap64 (bt103.2 - bt101.2))).bind fun t105 => (if t105 = true then (if a0.toList = ([110] : List UInt8) then (some true) else (spec_wkGoes.l0 k bt101.1 bt101.2 bt103.1 bt103.2)) else (some false))))) = some r := h
 clear h
 replace H := Option.bind_eq_some_iff.mp H
 obtain ⟨⟨t101, t102⟩, A40, H⟩ := H
 replace H : ((spec_wkPlace.f a2).bind fun bt103 => ((spec_wkCan.f a0 (wrap64 (bt103.1 - t101)) (wrap64 (bt103.2 - t102))).bind fun t105 => (if t105 = true then (if a0.toList = ([110] : List UInt8) then (some true) else (spec_wkGoes.l0 k t101 t102 bt103.1 bt103.2)) else (some false)))) = some r := H
 have A4 := Aside0.mk A40
 clear A40
 replace H := Option.bind_eq_some_iff.mp H
 obtain ⟨⟨t103, t104⟩, A50, H⟩ := H
 replace H : ((spec_wkCan.f a0 (wrap64 (t103 - t101)) (wrap64 (t104 - t102))).bind fun t105 => (if t105 = true then (if a0.toList = ([110] : List UInt8) then (some true) else (spec_wkGoes.l0 k t101 t102 t103 t104)) else (some false))) = some r := H
 have A5 := Aside0.mk A50
 clear A50
 replace H := Option.bind_eq_some_iff.mp H
 obtain ⟨t105, A60, H⟩ := H
 replace H : (if t105 = true then (if a0.toList = ([110] : List UInt8) then (some true) else (spec_wkGoes.l0 k t101 t102 t103 t104)) else (some false)) = some r := H
 have A6 := Aside0.mk A60
 clear A60
 by_cases c7 : t105 = true
 ·
  subst c7
  have H1 : (if a0.toList = ([110] : List UInt8) then (some true) else (spec_wkGoes.l0 k t101 t102 t103 t104)) = some r := by rw [if_pos rfl] at H; exact H
  clear H
  have H := H1
  clear H1
  by_cases c8 : a0.toList = ([110] : List UInt8)
  ·
   rw [if_pos c8] at H
   have c8b0 : (a0.toList == ([110] : List UInt8)) = true := beq_iff_eq.mpr c8
   have c8b1 : (a0.toList != ([110] : List UInt8)) = false := bne_eq_false_iff_eq.mpr c8
   clear c8
   obtain rfl := Option.some.inj H
   go_enter Tryd.func31, Tryd.ntmps31
   go_wp2_with (first | ((with_reducible refine gate_callee (f := 39) rfl ?_); refine goesL_ (some 13) rfl rfl Tryd.func39 (by kernel_rfl) rfl #[.int .u8 a1] rfl (by (try simp only [List.map_toArray, List.map_cons, List.map_nil]); first | done | rfl | (simp only [List.length_drop, List.length_take]; rfl)) ?_; (with_reducible refine (spec_wkPlace.calls a1 t101 t102 _ A4.out).mono ?_); rintro e w' ⟨rfl, ⟨nd, rfl⟩⟩; refine ⟨_, rfl, ?_⟩) | ((with_reducible refine gate_callee (f := 39) rfl ?_); refine goesL_ (some 18) rfl rfl Tryd.func39 (by kernel_rfl) rfl #[.int .u8 a2] rfl (by (try simp only [List.map_toArray, List.map_cons, List.map_nil]); first | done | rfl | (simp only [List.length_drop, List.length_take]; rfl)) ?_; (with_reducible refine (spec_wkPlace.calls a2 t103 t104 _ A5.out).mono ?_); rintro e w' ⟨rfl, ⟨nd, rfl⟩⟩; refine ⟨_, rfl, ?_⟩) | ((with_reducible refine gate_callee (f := 40) rfl ?_); refine goesL_ (some 28) rfl rfl Tryd.func40 (by kernel_rfl) rfl #[.string a0, .int .i64 (wrap64 (t103 - t101)), .int .i64 (wrap64 (t104 - t102))] rfl (by (try simp only [List.map_toArray, List.map_cons, List.map_nil]); first | done | rfl | (simp only [List.length_drop, List.length_take]; rfl)) ?_; (with_reducible refine (spec_wkCan.calls a0 (wrap64 (t103 - t101)) (wrap64 (t104 - t102)) true _ A6.out).mono ?_); rintro e w' ⟨rfl, ⟨nd, rfl⟩⟩; refine ⟨_, rfl, ?_⟩))
   go_ret
   exact ⟨by first | rfl | (simp; done) | (simp [*]; done), by repeat (first | exact Drawn0.refl _ | apply Drawn0.step)⟩
  ·
   rw [if_neg c8] at H
   have c8b0 : (a0.toList == ([110] : List UInt8)) = false := beq_eq_false_iff_ne.mpr c8
   have c8b1 : (a0.toList != ([110] : List UInt8)) = true := bne_iff_ne.mpr c8
   have H' := Aside0.mk H
   clear H
   go_enter Tryd.func31, Tryd.ntmps31
   go_wp2_with (first | ((with_reducible refine gate_callee (f := 39) rfl ?_); refine goesL_ (some 13) rfl rfl Tryd.func39 (by kernel_rfl) rfl #[.int .u8 a1] rfl (by (try simp only [List.map_toArray, List.map_cons, List.map_nil]); first | done | rfl | (simp only [List.length_drop, List.length_take]; rfl)) ?_; (with_reducible refine (spec_wkPlace.calls a1 t101 t102 _ A4.out).mono ?_); rintro e w' ⟨rfl, ⟨nd, rfl⟩⟩; refine ⟨_, rfl, ?_⟩) | ((with_reducible refine gate_callee (f := 39) rfl ?_); refine goesL_ (some 18) rfl rfl Tryd.func39 (by kernel_rfl) rfl #[.int .u8 a2] rfl (by (try simp only [List.map_toArray, List.map_cons, List.map_nil]); first | done | rfl | (simp only [List.length_drop, List.length_take]; rfl)) ?_; (with_reducible refine (spec_wkPlace.calls a2 t103 t104 _ A5.out).mono ?_); rintro e w' ⟨rfl, ⟨nd, rfl⟩⟩; refine ⟨_, rfl, ?_⟩) | ((with_reducible refine gate_callee (f := 40) rfl ?_); refine goesL_ (some 28) rfl rfl Tryd.func40 (by kernel_rfl) rfl #[.string a0, .int .i64 (wrap64 (t103 - t101)), .int .i64 (wrap64 (t104 - t102))] rfl (by (try simp only [List.map_toArray, List.map_cons, List.map_nil]); first | done | rfl | (simp only [List.length_drop, List.length_take]; rfl)) ?_; (with_reducible refine (spec_wkCan.calls a0 (wrap64 (t103 - t101)) (wrap64 (t104 - t102)) true _ A6.out).mono ?_); rintro e w' ⟨rfl, ⟨nd, rfl⟩⟩; refine ⟨_, rfl, ?_⟩))
   go_loopg [7, 8] k (fun kq v7 v8 w' => ∃ (x7_1 : Int) (x8_1 : Int), v7 = .int .i64 x7_1 ∧ v8 = .int .i64 x8_1 ∧ Aside0 (spec_wkGoes.l0 kq x7_1 x8_1 t103 t104 = some r) ∧ Aside0 (kq ≤ k) ∧ Drawn0 w w')
   case atStart => exact ⟨(t101), (t102), (by first | rfl | (simp; done) | (simp [*]; done)), (by first | rfl | (simp; done) | (simp [*]; done)), H', ⟨Nat.le_refl _⟩, by repeat (first | exact Drawn0.refl _ | apply Drawn0.step)⟩
   case round =>
    clear H'
    try clear p2
    try clear c3
    try clear c4
    try clear p6
    try clear c7
    try clear c8
    try clear c8b0
    try clear c8b1
    obtain ⟨x7_1, x8_1, rfl, rfl, HA, HK1, ⟨m1, rfl⟩⟩ := hrel
    cases gk with
    | zero => exact absurd HA.out (by simp [spec_wkGoes.l0])
    | succ k1 =>
     have H := HA.out
     clear HA
     simp only [spec_wkGoes.l0] at H
     have HC9 := Aside0.mk H
     clear H
     go_upto_region 7 with (fail)
     go_cut [39] (fun v39 wc => ∃ (kq : Nat) (x39_8 : Bool), v39 = .bool x39_8 ∧ Aside0 (spec_wkGoes.j1 kq x7_1 x8_1 t103 t104 x39_8 = some r) ∧ Aside0 (kq ≤ k1) ∧ Drawn0 w wc)
     case first =>
      have H := HC9.out
      clear HC9
      by_cases c10 : x7_1 = t103
      ·
       rw [if_pos c10] at H
       have c10b0 : (x7_1 == t103) = true := beq_iff_eq.mpr c10
       have c10b1 : (x7_1 != t103) = false := bne_eq_false_iff_eq.mpr c10
       clear c10
       (first | rw [c10b0] | (simp only [i64_w, i32_w]; rw [c10b0]) | skip)
       have H' := Aside0.mk H
       clear H
       go_wp2
       go_meet
       case rel => exact ⟨_, ((x8_1 != t104)), (by first | rfl | (simp; done) | (simp [*]; done)), H', ⟨by have := HK1.out; first | omega | exact Nat.le_refl _⟩, by repeat (first | exact Drawn0.refl _ | apply Drawn0.step)⟩
      ·
       rw [if_neg c10] at H
       have c10b0 : (x7_1 == t103) = false := beq_eq_false_iff_ne.mpr c10
       have c10b1 : (x7_1 != t103) = true := bne_iff_ne.mpr c10
       (first | rw [c10b0] | (simp only [i64_w, i32_w]; rw [c10b0]) | skip)
       have H' := Aside0.mk H
       clear H
       go_wp2
       go_meet
       case rel => exact ⟨_, (true), (by first | rfl | (simp; done) | (simp [*]; done)), H', ⟨by have := HK1.out; first | omega | exact Nat.le_refl _⟩, by repeat (first | exact Drawn0.refl _ | apply Drawn0.step)⟩
     case rest =>
      clear HC9
      try clear c1
      try clear p2
      try clear c3
      try clear c4
      try clear p6
      try clear c7
      try clear c8
      try clear c8b0
      try clear c8b1
      try clear c10
      try clear c10b0
      try clear c10b1
      try clear p2
      try clear p6
      obtain ⟨kq, x39_8, rfl, HA, HJ8, ⟨mc8, rfl⟩⟩ := hcut
      cases kq with
      | zero => exact absurd HA.out (by simp [spec_wkGoes.j1])
      | succ kj8 =>
       have H := HA.out
       clear HA
       simp only [spec_wkGoes.j1] at H
       by_cases c11 : x39_8 = true
       ·
        subst c11
        have H1 : ((spec_wkSign.f (wrap64 (t103 - x7_1))).bind fun t106 => ((spec_wkSign.f (wrap64 (t104 - x8_1))).bind fun t107 => ((spec_wkAt.f kj8 (wrap64 (x7_1 + t106)) (wrap64 (x8_1 + t107))).bind fun t108 => (if t108 = 32 then (some false) else (spec_wkGoes.l0 kj8 (wrap64 (x7_1 + t106)) (wrap64 (x8_1 + t107)) t103 t104))))) = some r := by rw [if_pos rfl] at H; exact H
        clear H
        have H := H1
        clear H1
        replace H := Option.bind_eq_some_iff.mp H
        obtain ⟨t106, A120, H⟩ := H
        replace H : ((spec_wkSign.f (wrap64 (t104 - x8_1))).bind fun t107 => ((spec_wkAt.f kj8 (wrap64 (x7_1 + t106)) (wrap64 (x8_1 + t107))).bind fun t108 => (if t108 = 32 then (some false) else (spec_wkGoes.l0 kj8 (wrap64 (x7_1 + t106)) (wrap64 (x8_1 + t107)) t103 t104)))) = some r := H
        have A12 := Aside0.mk A120
        clear A120
        replace H := Option.bind_eq_some_iff.mp H
        obtain ⟨t107, A130, H⟩ := H
        replace H : ((spec_wkAt.f kj8 (wrap64 (x7_1 + t106)) (wrap64 (x8_1 + t107))).bind fun t108 => (if t108 = 32 then (some false) else (spec_wkGoes.l0 kj8 (wrap64 (x7_1 + t106)) (wrap64 (x8_1 + t107)) t103 t104))) = some r := H
        have A13 := Aside0.mk A130
        clear A130
        replace H := Option.bind_eq_some_iff.mp H
        obtain ⟨t108, A140, H⟩ := H
        replace H : (if t108 = 32 then (some false) else (spec_wkGoes.l0 kj8 (wrap64 (x7_1 + t106)) (wrap64 (x8_1 + t107)) t103 t104)) = some r := H
        have A14 := Aside0.mk A140
        clear A140
        by_cases c15 : t108 = 32
        ·
         rw [if_pos c15] at H
         have c15b0 : (t108 == 32) = true := beq_iff_eq.mpr c15
         have c15b1 : (t108 != 32) = false := bne_eq_false_iff_eq.mpr c15
         clear c15
         obtain rfl := Option.some.inj H
         go_wp2_with (first | ((with_reducible refine gate_callee (f := 41) rfl ?_); refine goesL_ (some 44) rfl rfl Tryd.func41 (by kernel_rfl) rfl #[.int .i64 (wrap64 (t103 - x7_1))] rfl (by (try simp only [List.map_toArray, List.map_cons, List.map_nil]); first | done | rfl | (simp only [List.length_drop, List.length_take]; rfl)) ?_; (with_reducible refine (spec_wkSign.calls (wrap64 (t103 - x7_1)) t106 _ A12.out).mono ?_); rintro e w' ⟨rfl, ⟨nd, rfl⟩⟩; refine ⟨_, rfl, ?_⟩) | ((with_reducible refine gate_callee (f := 41) rfl ?_); refine goesL_ (some 50) rfl rfl Tryd.func41 (by kernel_rfl) rfl #[.int .i64 (wrap64 (t104 - x8_1))] rfl (by (try simp only [List.map_toArray, List.map_cons, List.map_nil]); first | done | rfl | (simp only [List.length_drop, List.length_take]; rfl)) ?_; (with_reducible refine (spec_wkSign.calls (wrap64 (t104 - x8_1)) t107 _ A13.out).mono ?_); rintro e w' ⟨rfl, ⟨nd, rfl⟩⟩; refine ⟨_, rfl, ?_⟩) | ((with_reducible refine gate_callee (f := 42) rfl ?_); refine goesL_ (some 54) rfl rfl Tryd.func42 (by kernel_rfl) rfl #[.int .i64 (wrap64 (x7_1 + t106)), .int .i64 (wrap64 (x8_1 + t107))] rfl (by (try simp only [List.map_toArray, List.map_cons, List.map_nil]); first | done | rfl | (simp only [List.length_drop, List.length_take]; rfl)) ?_; (with_reducible refine (spec_wkAt.calls kj8 (wrap64 (x7_1 + t106)) (wrap64 (x8_1 + t107)) t108 _ A14.out).mono ?_); rintro e w' ⟨rfl, ⟨nd, rfl⟩⟩; refine ⟨_, rfl, ?_⟩))
         go_ret
         exact ⟨by first | rfl | (simp; done) | (simp [*]; done), by repeat (first | exact Drawn0.refl _ | apply Drawn0.step)⟩
        ·
         rw [if_neg c15] at H
         have c15b0 : (t108 == 32) = false := beq_eq_false_iff_ne.mpr c15
         have c15b1 : (t108 != 32) = true := bne_iff_ne.mpr c15
         have H' := Aside0.mk H
         clear H
         go_wp2_with (first | ((with_reducible refine gate_callee (f := 41) rfl ?_); refine goesL_ (some 44) rfl rfl Tryd.func41 (by kernel_rfl) rfl #[.int .i64 (wrap64 (t103 - x7_1))] rfl (by (try simp only [List.map_toArray, List.map_cons, List.map_nil]); first | done | rfl | (simp only [List.length_drop, List.length_take]; rfl)) ?_; (with_reducible refine (spec_wkSign.calls (wrap64 (t103 - x7_1)) t106 _ A12.out).mono ?_); rintro e w' ⟨rfl, ⟨nd, rfl⟩⟩; refine ⟨_, rfl, ?_⟩) | ((with_reducible refine gate_callee (f := 41) rfl ?_); refine goesL_ (some 50) rfl rfl Tryd.func41 (by kernel_rfl) rfl #[.int .i64 (wrap64 (t104 - x8_1))] rfl (by (try simp only [List.map_toArray, List.map_cons, List.map_nil]); first | done | rfl | (simp only [List.length_drop, List.length_take]; rfl)) ?_; (with_reducible refine (spec_wkSign.calls (wrap64 (t104 - x8_1)) t107 _ A13.out).mono ?_); rintro e w' ⟨rfl, ⟨nd, rfl⟩⟩; refine ⟨_, rfl, ?_⟩) | ((with_reducible refine gate_callee (f := 42) rfl ?_); refine goesL_ (some 54) rfl rfl Tryd.func42 (by kernel_rfl) rfl #[.int .i64 (wrap64 (x7_1 + t106)), .int .i64 (wrap64 (x8_1 + t107))] rfl (by (try simp only [List.map_toArray, List.map_cons, List.map_nil]); first | done | rfl | (simp only [List.length_drop, List.length_take]; rfl)) ?_; (with_reducible refine (spec_wkAt.calls kj8 (wrap64 (x7_1 + t106)) (wrap64 (x8_1 + t107)) t108 _ A14.out).mono ?_); rintro e w' ⟨rfl, ⟨nd, rfl⟩⟩; refine ⟨_, rfl, ?_⟩))
         go_roundg kj8
         case measure => have := HK1.out; have := HJ8.out; omega
         case rel => exact ⟨(wrap64 (x7_1 + t106)), (wrap64 (x8_1 + t107)), (by first | rfl | (simp; done) | (simp [*]; done)), (by first | rfl | (simp; done) | (simp [*]; done)), H', ⟨by have := HK1.out; have := HJ8.out; omega⟩, by repeat (first | exact Drawn0.refl _ | apply Drawn0.step)⟩
       ·
        replace c11 := Bool.eq_false_iff.mpr c11
        subst c11
        have H1 : (some true) = some r := by rw [if_neg (show ¬ (false = true) by decide)] at H; exact H
        clear H
        have H := H1
        clear H1
        obtain rfl := Option.some.inj H
        go_wp2
        go_ret
        exact ⟨by first | rfl | (simp; done) | (simp [*]; done), by repeat (first | exact Drawn0.refl _ | apply Drawn0.step)⟩
 ·
  replace c7 := Bool.eq_false_iff.mpr c7
  subst c7
  have H1 : (some false) = some r := by rw [if_neg (show ¬ (false = true) by decide)] at H; exact H
  clear H
  have H := H1
  clear H1
  obtain rfl := Option.some.inj H
  go_enter Tryd.func31, Tryd.ntmps31
  go_wp2_with (first | ((with_reducible refine gate_callee (f := 39) rfl ?_); refine goesL_ (some 13) rfl rfl Tryd.func39 (by kernel_rfl) rfl #[.int .u8 a1] rfl (by (try simp only [List.map_toArray, List.map_cons, List.map_nil]); first | done | rfl | (simp only [List.length_drop, List.length_take]; rfl)) ?_; (with_reducible refine (spec_wkPlace.calls a1 t101 t102 _ A4.out).mono ?_); rintro e w' ⟨rfl, ⟨nd, rfl⟩⟩; refine ⟨_, rfl, ?_⟩) | ((with_reducible refine gate_callee (f := 39) rfl ?_); refine goesL_ (some 18) rfl rfl Tryd.func39 (by kernel_rfl) rfl #[.int .u8 a2] rfl (by (try simp only [List.map_toArray, List.map_cons, List.map_nil]); first | done | rfl | (simp only [List.length_drop, List.length_take]; rfl)) ?_; (with_reducible refine (spec_wkPlace.calls a2 t103 t104 _ A5.out).mono ?_); rintro e w' ⟨rfl, ⟨nd, rfl⟩⟩; refine ⟨_, rfl, ?_⟩) | ((with_reducible refine gate_callee (f := 40) rfl ?_); refine goesL_ (some 28) rfl rfl Tryd.func40 (by kernel_rfl) rfl #[.string a0, .int .i64 (wrap64 (t103 - t101)), .int .i64 (wrap64 (t104 - t102))] rfl (by (try simp only [List.map_toArray, List.map_cons, List.map_nil]); first | done | rfl | (simp only [List.length_drop, List.length_take]; rfl)) ?_; (with_reducible refine (spec_wkCan.calls a0 (wrap64 (t103 - t101)) (wrap64 (t104 - t102)) false _ A6.out).mono ?_); rintro e w' ⟨rfl, ⟨nd, rfl⟩⟩; refine ⟨_, rfl, ?_⟩))
  go_ret
  exact ⟨by first | rfl | (simp; done) | (simp [*]; done), by repeat (first | exact Drawn0.refl _ | apply Drawn0.step)⟩

end Go.Proofs.YtgmdahmfmpdegaaDoor.P

-- printed by xprint.py
namespace Go.Proofs.YtgmdahmfmpdegaaDoor.P
open Go.RowKit Go.Proofs.YtgmdahmfmpdegaaDoorW.PrintWords Go.Proofs.YtgmdahmfmpdegaaDoorW.PrintLast Go.Proofs.YtgmdahmfmpdegaaDoorW.PrintMore
attribute [local go_sem] max2_int min2_int max_two min_two max_three min_three max_four min_four   -- for this text's walks alone
set_option linter.unusedVariables false
set_option linter.unusedSimpArgs false

/-! ### spec_wkNext: function 24 -/
def spec_wkNext.l0 : Nat → ByteArray → Int → ByteArray → Int → Option (ByteArray)
 | 0, _, _, _, _ => none
 | k + 1, x0, x1, x5, x6 => if x6 ≤ 57 then ((spec_wkGoes.f k x0 x1 x6).bind fun t101 => (if t101 = true then (if x5.size + (Utf8.encode (wrap32 (x6))).size ≤ 9223372036854775807 then (spec_wkNext.l0 k x0 x1 (x5 ++ (Utf8.encode (wrap32 (x6)))) ((x6 + 1) % 256)) else (none)) else (spec_wkNext.l0 k x0 x1 x5 ((x6 + 1) % 256)))) else (some x5)
def spec_wkNext.f (k : Nat) (a0 : ByteArray) (a1 : Int) : Option (ByteArray) := spec_wkNext.l0 k a0 a1 (⟨#[]⟩ : ByteArray) 48
theorem spec_wkNext.mono_l : ∀ k, (∀ y0 y1 y2 y3, LeO (spec_wkNext.l0 k y0 y1 y2 y3) (spec_wkNext.l0 (k + 1) y0 y1 y2 y3))
 | 0 => by intros; intro r h; simp [spec_wkNext.l0] at h
 | k + 1 => by
  have ih0 := spec_wkNext.mono_l k
  ·
   intro y0 y1 y2 y3
   unfold spec_wkNext.l0
   repeat' first
   | (with_reducible exact ih0 _ _ _ _)
   | (with_reducible exact spec_wkGoes.mono _ _ _ _)
   | (with_reducible exact LeO.refl _)
   | (with_reducible exact LeO.none _)
   | (with_reducible refine LeO.ite ?_ ?_)
   | (with_reducible refine LeO.bind ?_ (fun _ => ?_))
   | exact ih0 _ _ _ _
   | exact spec_wkGoes.mono _ _ _ _
   | exact LeO.none _
   | refine LeO.ite ?_ ?_
   | refine LeO.bind ?_ (fun _ => ?_)
theorem spec_wkNext.mono : ∀ y0 y1 k, LeO (spec_wkNext.f k y0 y1) (spec_wkNext.f (k + 1) y0 y1) := by
 intro y0 y1 k
 have ih0 := spec_wkNext.mono_l k
 unfold spec_wkNext.f
 repeat' first
   | (with_reducible exact ih0 _ _ _ _)
   | (with_reducible exact spec_wkGoes.mono _ _ _ _)
   | (with_reducible exact LeO.refl _)
   | (with_reducible exact LeO.none _)
   | (with_reducible refine LeO.ite ?_ ?_)
   | (with_reducible refine LeO.bind ?_ (fun _ => ?_))
   | exact ih0 _ _ _ _
   | exact spec_wkGoes.mono _ _ _ _
   | exact LeO.none _
   | refine LeO.ite ?_ ?_
   | refine LeO.bind ?_ (fun _ => ?_)
set_option maxHeartbeats 8000000 in
set_option maxRecDepth 100000 in
theorem spec_wkNext.calls (k : Nat) (a0 : ByteArray) (a1 : Int) (r : ByteArray) (w : World) (h : spec_wkNext.f k a0 a1 = some r) :
  Calls Tryd.prog 24 #[.string a0, .int .u8 a1] w fun e w' => e = .returned (.string r) ∧ Drawn0 w w' := by
 have H : (spec_wkNext.l0 k a0 a1 (⟨#[]⟩ : ByteArray) 48) = some r := h
 clear h
 have H' := Aside0.mk H
 clear H
 go_enter Tryd.func24, Tryd.ntmps24
 go_wp2
 go_loopg [5, 6] k (fun kq v5 v6 w' => ∃ (x5_1 : ByteArray) (x6_1 : Int), v5 = .string x5_1 ∧ v6 = .int .u8 x6_1 ∧ Aside0 (spec_wkNext.l0 kq a0 a1 x5_1 x6_1 = some r) ∧ Aside0 (kq ≤ k) ∧ Drawn0 w w')
 case atStart => exact ⟨((⟨#[]⟩ : ByteArray)), (48), (by first | rfl | (simp; done) | (simp [*]; done)), (by first | rfl | (simp; done) | (simp [*]; done)), H', ⟨Nat.le_refl _⟩, by repeat (first | exact Drawn0.refl _ | apply Drawn0.step)⟩
 case round =>
  clear H'
  try clear c2
  try clear p2
  obtain ⟨x5_1, x6_1, rfl, rfl, HA, HK1, ⟨m1, rfl⟩⟩ := hrel
  cases gk with
  | zero => exact absurd HA.out (by simp [spec_wkNext.l0])
  | succ k1 =>
   have H := HA.out
   clear HA
   simp only [spec_wkNext.l0] at H
   by_cases c3 : x6_1 ≤ 57
   ·
    rw [if_pos c3] at H
    have c3b0 : decide (x6_1 ≤ 57) = true := decide_eq_true c3
    clear c3
    replace H := Option.bind_eq_some_iff.mp H
    obtain ⟨t101, A40, H⟩ := H
    replace H : (if t101 = true then (if x5_1.size + (Utf8.encode (wrap32 (x6_1))).size ≤ 9223372036854775807 then (spec_wkNext.l0 k1 a0 a1 (x5_1 ++ (Utf8.encode (wrap32 (x6_1)))) ((x6_1 + 1) % 256)) else (none)) else (spec_wkNext.l0 k1 a0 a1 x5_1 ((x6_1 + 1) % 256))) = some r := H
    have A4 := Aside0.mk A40
    clear A40
    by_cases c5 : t101 = true
    ·
     subst c5
     have H1 : (if x5_1.size + (Utf8.encode (wrap32 (x6_1))).size ≤ 9223372036854775807 then (spec_wkNext.l0 k1 a0 a1 (x5_1 ++ (Utf8.encode (wrap32 (x6_1)))) ((x6_1 + 1) % 256)) else (none)) = some r := by rw [if_pos rfl] at H; exact H
     clear H
     have H := H1
     clear H1
     by_cases c6 : x5_1.size + (Utf8.encode (wrap32 (x6_1))).size ≤ 9223372036854775807
     ·
      rw [if_pos c6] at H
      have c6b0 := eq_true c6
      have c6b1 : decide (x5_1.size + (Utf8.encode (wrap32 (x6_1))).size ≤ 9223372036854775807) = true := decide_eq_true c6
      try have c6b2 : (9223372036854775807 < x5_1.size + (Utf8.encode (wrap32 (x6_1))).size) = False := eq_false (Nat.not_lt.2 c6)
      have H' := Aside0.mk H
      clear H
      go_wp2_with (first | ((with_reducible refine gate_callee (f := 31) rfl ?_); refine goesL_ (some 14) rfl rfl Tryd.func31 (by kernel_rfl) rfl #[.string a0, .int .u8 a1, .int .u8 x6_1] rfl (by (try simp only [List.map_toArray, List.map_cons, List.map_nil]); first | done | rfl | (simp only [List.length_drop, List.length_take]; rfl)) ?_; (with_reducible refine (spec_wkGoes.calls k1 a0 a1 x6_1 true _ A4.out).mono ?_); rintro e w' ⟨rfl, ⟨nd, rfl⟩⟩; refine ⟨_, rfl, ?_⟩; have hcv7 : ∀ W : World, (convert 21 9 (.int .i32 (wrap32 (x6_1)))).run Tryd.prog W = .ok (.string (Utf8.encode (wrap32 (x6_1)))) W := fun W => run_convert_int_string W 21 9 .i32 (wrap32 (x6_1)) (by rw [Tryd.underlying21]; rfl) Tryd.underlying9))
      go_roundg k1
      case measure => have := HK1.out; omega
      case rel => exact ⟨(x5_1 ++ (Utf8.encode (wrap32 (x6_1)))), ((x6_1 + 1) % 256), (by first | rfl | (simp; done) | (simp [*]; done)), (by first | rfl | (simp; done) | (simp [*]; done)), H', ⟨by have := HK1.out; omega⟩, by repeat (first | exact Drawn0.refl _ | apply Drawn0.step)⟩
     ·
      rw [if_neg c6] at H
      exact absurd H (by simp)
    ·
     replace c5 := Bool.eq_false_iff.mpr c5
     subst c5
     have H1 : (spec_wkNext.l0 k1 a0 a1 x5_1 ((x6_1 + 1) % 256)) = some r := by rw [if_neg (show ¬ (false = true) by decide)] at H; exact H
     clear H
     have H := H1
     clear H1
     have H' := Aside0.mk H
     clear H
     go_wp2_with (first | ((with_reducible refine gate_callee (f := 31) rfl ?_); refine goesL_ (some 14) rfl rfl Tryd.func31 (by kernel_rfl) rfl #[.string a0, .int .u8 a1, .int .u8 x6_1] rfl (by (try simp only [List.map_toArray, List.map_cons, List.map_nil]); first | done | rfl | (simp only [List.length_drop, List.length_take]; rfl)) ?_; (with_reducible refine (spec_wkGoes.calls k1 a0 a1 x6_1 false _ A4.out).mono ?_); rintro e w' ⟨rfl, ⟨nd, rfl⟩⟩; refine ⟨_, rfl, ?_⟩))
     go_roundg k1
     case measure => have := HK1.out; omega
     case rel => exact ⟨(x5_1), ((x6_1 + 1) % 256), (by first | rfl | (simp; done) | (simp [*]; done)), (by first | rfl | (simp; done) | (simp [*]; done)), H', ⟨by have := HK1.out; omega⟩, by repeat (first | exact Drawn0.refl _ | apply Drawn0.step)⟩
   ·
    rw [if_neg c3] at H
    have c3b0 : decide (x6_1 ≤ 57) = false := decide_eq_false c3
    clear c3
    obtain rfl := Option.some.inj H
    go_wp2
    go_ret
    exact ⟨by first | rfl | (simp; done) | (simp [*]; done), by repeat (first | exact Drawn0.refl _ | apply Drawn0.step)⟩

end Go.Proofs.YtgmdahmfmpdegaaDoor.P

-- printed by xprint.py
namespace Go.Proofs.YtgmdahmfmpdegaaDoor.P
open Go.RowKit Go.Proofs.YtgmdahmfmpdegaaDoorW.PrintWords Go.Proofs.YtgmdahmfmpdegaaDoorW.PrintLast Go.Proofs.YtgmdahmfmpdegaaDoorW.PrintMore
attribute [local go_sem] max2_int min2_int max_two min_two max_three min_three max_four min_four   -- for this text's walks alone
set_option linter.unusedVariables false
set_option linter.unusedSimpArgs false

/-! ### spec_wkOnce: function 19 -/
mutual
def spec_wkOnce.l0 : Nat → ByteArray → ByteArray → ByteArray → ByteArray → Int → Option (ByteArray)
 | 0, _, _, _, _, _ => none
 | k + 1, x0, x1, x5, x6, x7 => if x7 < (x6.size : Int) then (if 0 ≤ x7 then ((spec_wkHas.f k x1 (bt x6 x7)).bind fun t102 => (if t102 = true then (spec_wkOnce.l0 k x0 x1 x5 x6 (wrap64 (x7 + 1))) else (if x7 ≤ (wrap64 (x7 + 1)) then (if (wrap64 (x7 + 1)) ≤ (x6.size : Int) then (if x1.size + (x6.extract (x7 : Int).toNat ((wrap64 (x7 + 1)) : Int).toNat).size ≤ 9223372036854775807 then ((spec_wkOnce.f k x0 (x1 ++ (x6.extract (x7 : Int).toNat ((wrap64 (x7 + 1)) : Int).toNat))).bind fun t103 => (if (t103.size : Int) > (x5.size : Int) then (spec_wkOnce.l0 k x0 x1 t103 x6 (wrap64 (x7 + 1))) else (spec_wkOnce.l0 k x0 x1 x5 x6 (wrap64 (x7 + 1))))) else (none)) else (none)) else (none)))) else (none)) else (some x5)
def spec_wkOnce.f : Nat → ByteArray → ByteArray → Option (ByteArray)
 | 0, _, _ => none
 | k + 1, a0, a1 => if 0 ≤ (wrap64 ((a1.size : Int) - 1)) then (if (wrap64 ((a1.size : Int) - 1)) < (a1.size : Int) then ((spec_wkNext.f k a0 (bt a1 (wrap64 ((a1.size : Int) - 1)))).bind fun t101 => (spec_wkOnce.l0 k a0 a1 a1 t101 0)) else (none)) else (none)
end
theorem spec_wkOnce.mono_l : ∀ k, (∀ y0 y1, LeO (spec_wkOnce.f k y0 y1) (spec_wkOnce.f (k + 1) y0 y1)) ∧ (∀ y0 y1 y2 y3 y4, LeO (spec_wkOnce.l0 k y0 y1 y2 y3 y4) (spec_wkOnce.l0 (k + 1) y0 y1 y2 y3 y4))
 | 0 => ⟨by intros; intro r h; simp [spec_wkOnce.f] at h, by intros; intro r h; simp [spec_wkOnce.l0] at h⟩
 | k + 1 => by
  obtain ⟨ih0, ih1⟩ := spec_wkOnce.mono_l k
  refine ⟨?_, ?_⟩
  ·
   intro y0 y1
   unfold spec_wkOnce.f
   repeat' first
   | (with_reducible exact ih0 _ _)
   | (with_reducible exact ih1 _ _ _ _ _)
   | (with_reducible exact spec_wkHas.mono _ _ _)
   | (with_reducible exact spec_wkNext.mono _ _ _)
   | (with_reducible exact LeO.refl _)
   | (with_reducible exact LeO.none _)
   | (with_reducible refine LeO.ite ?_ ?_)
   | (with_reducible refine LeO.bind ?_ (fun _ => ?_))
   | exact ih0 _ _
   | exact ih1 _ _ _ _ _
   | exact spec_wkHas.mono _ _ _
   | exact spec_wkNext.mono _ _ _
   | exact LeO.none _
   | refine LeO.ite ?_ ?_
   | refine LeO.bind ?_ (fun _ => ?_)
  ·
   intro y0 y1 y2 y3 y4
   unfold spec_wkOnce.l0
   repeat' first
   | (with_reducible exact ih0 _ _)
   | (with_reducible exact ih1 _ _ _ _ _)
   | (with_reducible exact spec_wkHas.mono _ _ _)
   | (with_reducible exact spec_wkNext.mono _ _ _)
   | (with_reducible exact LeO.refl _)
   | (with_reducible exact LeO.none _)
   | (with_reducible refine LeO.ite ?_ ?_)
   | (with_reducible refine LeO.bind ?_ (fun _ => ?_))
   | exact ih0 _ _
   | exact ih1 _ _ _ _ _
   | exact spec_wkHas.mono _ _ _
   | exact spec_wkNext.mono _ _ _
   | exact LeO.none _
   | refine LeO.ite ?_ ?_
   | refine LeO.bind ?_ (fun _ => ?_)
theorem spec_wkOnce.mono : ∀ y0 y1 k, LeO (spec_wkOnce.f k y0 y1) (spec_wkOnce.f (k + 1) y0 y1) := by
 intro y0 y1 k
 obtain ⟨ih0, ih1⟩ := spec_wkOnce.mono_l k
 exact ih0 y0 y1
set_option maxHeartbeats 8000000 in
set_option maxRecDepth 100000 in
theorem spec_wkOnce.calls (k : Nat) : ∀ (a0 : ByteArray) (a1 : ByteArray) (r : ByteArray) (w : World) (h : spec_wkOnce.f k a0 a1 = some r),
  Calls Tryd.prog 19 #[.string a0, .string a1] w fun e w' => e = .returned (.string r) ∧ Drawn0 w w' := by
 induction k using Nat.strongRecOn with
 | _ k ih =>
 intro a0 a1 r w h
 cases k with
 | zero => exact absurd h (by simp [spec_wkOnce.f])
 | succ k =>
 simp only [spec_wkOnce.f] at h
 have H : (if 0 ≤ (wrap64 ((a1.size : Int) - 1)) then (if (wrap64 ((a1.size : Int) - 1)) < (a1.size : Int) then ((spec_wkNext.f k a0 (bt a1 (wrap64 ((a1.size : Int) - 1)))).bind fun t101 => (spec_wkOnce.l0 k a0 a1 a1 t101 0)) else (none)) else (none)) = some r := h
 clear h
 obtain ⟨ji3, hji3⟩ : ∃ j_ : Int, (wrap64 ((a1.size : Int) - 1)) = j_ := ⟨_, rfl⟩
 replace H : (if 0 ≤ (ji3) then (if (ji3) < (a1.size : Int) then ((spec_wkNext.f k a0 (bt a1 (ji3))).bind fun t101 => (spec_wkOnce.l0 k a0 a1 a1 t101 0)) else (none)) else (none)) = some r := by first | (rw [hji3] at H; exact H) | (simp only [hji3] at H ⊢; exact H)
 have hji3w : (IntKind.i64.wrap ((a1.size : Int) - 1)) = ji3 := (i64_w _).trans hji3
 by_cases c4 : 0 ≤ (ji3)
 ·
  rw [if_pos c4] at H
  have c4b0 : decide (0 ≤ (ji3)) = true := decide_eq_true c4
  clear c4
  by_cases c5 : (ji3) < (a1.size : Int)
  ·
   rw [if_pos c5] at H
   have c5b0 : decide ((ji3) < (a1.size : Int)) = true := decide_eq_true c5
   clear c5
   replace H := Option.bind_eq_some_iff.mp H
   obtain ⟨t101, A70, H⟩ := H
   replace H : (spec_wkOnce.l0 k a0 a1 a1 t101 0) = some r := H
   have A7 := Aside0.mk A70
   clear A70
   have H' := Aside0.mk H
   clear H
   have p6 : 0 ≤ ((ji3) : Int) := of_decide_eq_true (by first | (with_reducible assumption) | assumption)
   have q6 : (ji3) < (a1.size : Int) := of_decide_eq_true (by first | (with_reducible assumption) | assumption)
   have hx6 := bt_at a1 (ji3)
   replace p6 := eq_true p6
   replace q6 := eq_true q6
   go_enter Tryd.func19, Tryd.ntmps19
   go_wp2_with (first | ((with_reducible refine gate_callee (f := 24) rfl ?_); refine goesL_ (some 16) rfl rfl Tryd.func24 (by kernel_rfl) rfl #[.string a0, .int .u8 (bt a1 (ji3))] rfl (by (try simp only [List.map_toArray, List.map_cons, List.map_nil]); first | done | (simp only [hji3]; rfl) | rfl | (simp only [List.length_drop, List.length_take]; rfl)) ?_; (with_reducible refine (spec_wkNext.calls k a0 (bt a1 (ji3)) t101 _ A7.out).mono ?_); rintro e w' ⟨rfl, ⟨nd, rfl⟩⟩; refine ⟨_, rfl, ?_⟩))
   go_loopg [5, 7] k (fun kq v5 v7 w' => ∃ (x5_1 : ByteArray) (x7_1 : Int), v5 = .string x5_1 ∧ v7 = .int .i64 x7_1 ∧ Aside0 (spec_wkOnce.l0 kq a0 a1 x5_1 t101 x7_1 = some r) ∧ Aside0 (kq ≤ k) ∧ Drawn0 w w')
   case atStart => exact ⟨(a1), (0), (by first | rfl | (simp; done) | (simp [*]; done)), (by first | rfl | (simp; done) | (simp [*]; done)), H', ⟨Nat.le_refl _⟩, by repeat (first | exact Drawn0.refl _ | apply Drawn0.step)⟩
   case round =>
    clear H'
    try clear c1
    try clear c2
    try clear p2
    try clear c4
    try clear c4b0
    try clear c5
    try clear c5b0
    try clear p6
    try clear q6
    try clear hx6
    try clear p6
    try clear q6
    obtain ⟨x5_1, x7_1, rfl, rfl, HA, HK1, ⟨m1, rfl⟩⟩ := hrel
    cases gk with
    | zero => exact absurd HA.out (by simp [spec_wkOnce.l0])
    | succ k1 =>
     have H := HA.out
     clear HA
     simp only [spec_wkOnce.l0] at H
     by_cases c8 : x7_1 < (t101.size : Int)
     ·
      rw [if_pos c8] at H
      have c8b0 : decide (x7_1 < (t101.size : Int)) = true := decide_eq_true c8
      clear c8
      by_cases c9 : 0 ≤ x7_1
      ·
       rw [if_pos c9] at H
       have c9b0 : decide (0 ≤ x7_1) = true := decide_eq_true c9
       clear c9
       replace H := Option.bind_eq_some_iff.mp H
       obtain ⟨t102, A110, H⟩ := H
       replace H : (if t102 = true then (spec_wkOnce.l0 k1 a0 a1 x5_1 t101 (wrap64 (x7_1 + 1))) else (if x7_1 ≤ (wrap64 (x7_1 + 1)) then (if (wrap64 (x7_1 + 1)) ≤ (t101.size : Int) then (if a1.size + (t101.extract (x7_1 : Int).toNat ((wrap64 (x7_1 + 1)) : Int).toNat).size ≤ 9223372036854775807 then ((spec_wkOnce.f k1 a0 (a1 ++ (t101.extract (x7_1 : Int).toNat ((wrap64 (x7_1 + 1)) : Int).toNat))).bind fun t103 => (if (t103.size : Int) > (x5_1.size : Int) then (spec_wkOnce.l0 k1 a0 a1 t103 t101 (wrap64 (x7_1 + 1))) else (spec_wkOnce.l0 k1 a0 a1 x5_1 t101 (wrap64 (x7_1 + 1))))) else (none)) else (none)) else (none))) = some r := H
       have A11 := Aside0.mk A110
       clear A110
       by_cases c12 : t102 = true
       ·
        subst c12
        have H1 : (spec_wkOnce.l0 k1 a0 a1 x5_1 t101 (wrap64 (x7_1 + 1))) = some r := by rw [if_pos rfl] at H; exact H
        clear H
        have H := H1
        clear H1
        have H' := Aside0.mk H
        clear H
        have p10 : 0 ≤ (x7_1 : Int) := of_decide_eq_true (by first | (with_reducible assumption) | assumption)
        have q10 : x7_1 < (t101.size : Int) := of_decide_eq_true (by first | (with_reducible assumption) | assumption)
        have hx10 := bt_at t101 x7_1
        replace p10 := eq_true p10
        replace q10 := eq_true q10
        go_wp2_with (first | ((with_reducible refine gate_callee (f := 25) rfl ?_); refine goesL_ (some 27) rfl rfl Tryd.func25 (by kernel_rfl) rfl #[.string a1, .int .u8 (bt t101 x7_1)] rfl (by (try simp only [List.map_toArray, List.map_cons, List.map_nil]); first | done | rfl | (simp only [List.length_drop, List.length_take]; rfl)) ?_; (with_reducible refine (spec_wkHas.calls k1 a1 (bt t101 x7_1) true _ A11.out).mono ?_); rintro e w' ⟨rfl, ⟨nd, rfl⟩⟩; refine ⟨_, rfl, ?_⟩))
        go_roundg k1
        case measure => have := HK1.out; omega
        case rel => exact ⟨(x5_1), (wrap64 (x7_1 + 1)), (by first | rfl | (simp; done) | (simp [*]; done)), (by first | rfl | (simp; done) | (simp [*]; done)), H', ⟨by have := HK1.out; omega⟩, by repeat (first | exact Drawn0.refl _ | apply Drawn0.step)⟩
       ·
        replace c12 := Bool.eq_false_iff.mpr c12
        subst c12
        have H1 : (if x7_1 ≤ (wrap64 (x7_1 + 1)) then (if (wrap64 (x7_1 + 1)) ≤ (t101.size : Int) then (if a1.size + (t101.extract (x7_1 : Int).toNat ((wrap64 (x7_1 + 1)) : Int).toNat).size ≤ 9223372036854775807 then ((spec_wkOnce.f k1 a0 (a1 ++ (t101.extract (x7_1 : Int).toNat ((wrap64 (x7_1 + 1)) : Int).toNat))).bind fun t103 => (if (t103.size : Int) > (x5_1.size : Int) then (spec_wkOnce.l0 k1 a0 a1 t103 t101 (wrap64 (x7_1 + 1))) else (spec_wkOnce.l0 k1 a0 a1 x5_1 t101 (wrap64 (x7_1 + 1))))) else (none)) else (none)) else (none)) = some r := by rw [if_neg (show ¬ (false = true) by decide)] at H; exact H
        clear H
        have H := H1
        clear H1
        have c13b0 := eq_true (of_decide_eq_true (by first | (with_reducible assumption) | assumption) : 0 ≤ x7_1)
        by_cases c14 : x7_1 ≤ (wrap64 (x7_1 + 1))
        ·
         rw [if_pos c14] at H
         have c14b0 := eq_true c14
         have c14b1 : decide (x7_1 ≤ (wrap64 (x7_1 + 1))) = true := decide_eq_true c14
         by_cases c15 : (wrap64 (x7_1 + 1)) ≤ (t101.size : Int)
         ·
          rw [if_pos c15] at H
          have c15b0 := eq_true c15
          have c15b1 : decide ((wrap64 (x7_1 + 1)) ≤ (t101.size : Int)) = true := decide_eq_true c15
          by_cases c16 : a1.size + (t101.extract (x7_1 : Int).toNat ((wrap64 (x7_1 + 1)) : Int).toNat).size ≤ 9223372036854775807
          ·
           rw [if_pos c16] at H
           have c16b0 := eq_true c16
           have c16b1 : decide (a1.size + (t101.extract (x7_1 : Int).toNat ((wrap64 (x7_1 + 1)) : Int).toNat).size ≤ 9223372036854775807) = true := decide_eq_true c16
           try have c16b2 : (9223372036854775807 < a1.size + (t101.extract (x7_1 : Int).toNat ((wrap64 (x7_1 + 1)) : Int).toNat).size) = False := eq_false (Nat.not_lt.2 c16)
           replace H := Option.bind_eq_some_iff.mp H
           obtain ⟨t103, A170, H⟩ := H
           replace H : (if (t103.size : Int) > (x5_1.size : Int) then (spec_wkOnce.l0 k1 a0 a1 t103 t101 (wrap64 (x7_1 + 1))) else (spec_wkOnce.l0 k1 a0 a1 x5_1 t101 (wrap64 (x7_1 + 1)))) = some r := H
           have A17 := Aside0.mk A170
           clear A170
           by_cases c18 : (t103.size : Int) > (x5_1.size : Int)
           ·
            rw [if_pos c18] at H
            have c18b0 : decide ((x5_1.size : Int) < (t103.size : Int)) = true := decide_eq_true c18
            have c18b1 : decide (x5_1.size < t103.size) = true := decide_eq_true (Int.ofNat_lt.mp c18)
            clear c18
            have H' := Aside0.mk H
            clear H
            have p10 : 0 ≤ (x7_1 : Int) := of_decide_eq_true (by first | (with_reducible assumption) | assumption)
            have q10 : x7_1 < (t101.size : Int) := of_decide_eq_true (by first | (with_reducible assumption) | assumption)
            have hx10 := bt_at t101 x7_1
            replace p10 := eq_true p10
            replace q10 := eq_true q10
            go_wp2_with (first | ((with_reducible refine gate_callee (f := 25) rfl ?_); refine goesL_ (some 27) rfl rfl Tryd.func25 (by kernel_rfl) rfl #[.string a1, .int .u8 (bt t101 x7_1)] rfl (by (try simp only [List.map_toArray, List.map_cons, List.map_nil]); first | done | rfl | (simp only [List.length_drop, List.length_take]; rfl)) ?_; (with_reducible refine (spec_wkHas.calls k1 a1 (bt t101 x7_1) false _ A11.out).mono ?_); rintro e w' ⟨rfl, ⟨nd, rfl⟩⟩; refine ⟨_, rfl, ?_⟩) | ((with_reducible refine gate_callee (f := 19) rfl ?_); refine goesL_ (some 36) rfl rfl Tryd.func19 (by kernel_rfl) rfl #[.string a0, .string (a1 ++ (t101.extract (x7_1 : Int).toNat ((wrap64 (x7_1 + 1)) : Int).toNat))] rfl (by (try simp only [List.map_toArray, List.map_cons, List.map_nil]); first | done | rfl | (simp only [List.length_drop, List.length_take]; rfl)) ?_; (with_reducible refine (ih k1 (by have := HK1.out; omega) a0 (a1 ++ (t101.extract (x7_1 : Int).toNat ((wrap64 (x7_1 + 1)) : Int).toNat)) t103 _ A17.out).mono ?_); rintro e w' ⟨rfl, ⟨nd, rfl⟩⟩; refine ⟨_, rfl, ?_⟩))
            go_roundg k1
            case measure => have := HK1.out; omega
            case rel => exact ⟨(t103), (wrap64 (x7_1 + 1)), (by first | rfl | (simp; done) | (simp [*]; done)), (by first | rfl | (simp; done) | (simp [*]; done)), H', ⟨by have := HK1.out; omega⟩, by repeat (first | exact Drawn0.refl _ | apply Drawn0.step)⟩
           ·
            rw [if_neg c18] at H
            have c18b0 : decide ((x5_1.size : Int) < (t103.size : Int)) = false := decide_eq_false c18
            have c18b1 : decide (x5_1.size < t103.size) = false := decide_eq_false (fun h => c18 (Int.ofNat_lt.mpr h))
            clear c18
            have H' := Aside0.mk H
            clear H
            have p10 : 0 ≤ (x7_1 : Int) := of_decide_eq_true (by first | (with_reducible assumption) | assumption)
            have q10 : x7_1 < (t101.size : Int) := of_decide_eq_true (by first | (with_reducible assumption) | assumption)
            have hx10 := bt_at t101 x7_1
            replace p10 := eq_true p10
            replace q10 := eq_true q10
            go_wp2_with (first | ((with_reducible refine gate_callee (f := 25) rfl ?_); refine goesL_ (some 27) rfl rfl Tryd.func25 (by kernel_rfl) rfl #[.string a1, .int .u8 (bt t101 x7_1)] rfl (by (try simp only [List.map_toArray, List.map_cons, List.map_nil]); first | done | rfl | (simp only [List.length_drop, List.length_take]; rfl)) ?_; (with_reducible refine (spec_wkHas.calls k1 a1 (bt t101 x7_1) false _ A11.out).mono ?_); rintro e w' ⟨rfl, ⟨nd, rfl⟩⟩; refine ⟨_, rfl, ?_⟩) | ((with_reducible refine gate_callee (f := 19) rfl ?_); refine goesL_ (some 36) rfl rfl Tryd.func19 (by kernel_rfl) rfl #[.string a0, .string (a1 ++ (t101.extract (x7_1 : Int).toNat ((wrap64 (x7_1 + 1)) : Int).toNat))] rfl (by (try simp only [List.map_toArray, List.map_cons, List.map_nil]); first | done | rfl | (simp only [List.length_drop, List.length_take]; rfl)) ?_; (with_reducible refine (ih k1 (by have := HK1.out; omega) a0 (a1 ++ (t101.extract (x7_1 : Int).toNat ((wrap64 (x7_1 + 1)) : Int).toNat)) t103 _ A17.out).mono ?_); rintro e w' ⟨rfl, ⟨nd, rfl⟩⟩; refine ⟨_, rfl, ?_⟩))
            go_roundg k1
            case measure => have := HK1.out; omega
            case rel => exact ⟨(x5_1), (wrap64 (x7_1 + 1)), (by first | rfl | (simp; done) | (simp [*]; done)), (by first | rfl | (simp; done) | (simp [*]; done)), H', ⟨by have := HK1.out; omega⟩, by repeat (first | exact Drawn0.refl _ | apply Drawn0.step)⟩
          ·
           rw [if_neg c16] at H
           exact absurd H (by simp)
         ·
          rw [if_neg c15] at H
          exact absurd H (by simp)
        ·
         rw [if_neg c14] at H
         exact absurd H (by simp)
      ·
       rw [if_neg c9] at H
       exact absurd H (by simp)
     ·
      rw [if_neg c8] at H
      have c8b0 : decide (x7_1 < (t101.size : Int)) = false := decide_eq_false c8
      clear c8
      obtain rfl := Option.some.inj H
      go_wp2
      go_ret
      exact ⟨by first | rfl | (simp; done) | (simp only [← hji3] <;> (first | rfl | simp)) | (simp [*]; done), by repeat (first | exact Drawn0.refl _ | apply Drawn0.step)⟩
  ·
   rw [if_neg c5] at H
   exact absurd H (by simp)
 ·
  rw [if_neg c4] at H
  exact absurd H (by simp)

end Go.Proofs.YtgmdahmfmpdegaaDoor.P

-- printed by xprint.py
namespace Go.Proofs.YtgmdahmfmpdegaaDoor.P
open Go.RowKit Go.Proofs.YtgmdahmfmpdegaaDoorW.PrintWords Go.Proofs.YtgmdahmfmpdegaaDoorW.PrintLast Go.Proofs.YtgmdahmfmpdegaaDoorW.PrintMore
attribute [local go_sem] max2_int min2_int max_two min_two max_three min_three max_four min_four   -- for this text's walks alone
set_option linter.unusedVariables false
set_option linter.unusedSimpArgs false

/-! ### spec_LongestOnce: function 7 -/
def spec_LongestOnce.f (k : Nat) (a0 : ByteArray) (a1 : ByteArray) : Option (ByteArray × Bool) := (spec_wkAsked.f k a0 a1).bind fun t101 => (if t101 = true then ((spec_wkOnce.f k a0 a1).bind fun t102 => (some (t102, true))) else (some ((⟨#[]⟩ : ByteArray), false)))
theorem spec_LongestOnce.mono : ∀ y0 y1 k, LeO (spec_LongestOnce.f k y0 y1) (spec_LongestOnce.f (k + 1) y0 y1) := by
 intro y0 y1 k
 unfold spec_LongestOnce.f
 repeat' first
   | (with_reducible exact spec_wkAsked.mono _ _ _)
   | (with_reducible exact spec_wkOnce.mono _ _ _)
   | (with_reducible exact LeO.refl _)
   | (with_reducible exact LeO.none _)
   | (with_reducible refine LeO.ite ?_ ?_)
   | (with_reducible refine LeO.bind ?_ (fun _ => ?_))
   | exact spec_wkAsked.mono _ _ _
   | exact spec_wkOnce.mono _ _ _
   | exact LeO.none _
   | refine LeO.ite ?_ ?_
   | refine LeO.bind ?_ (fun _ => ?_)
set_option maxHeartbeats 8000000 in
set_option maxRecDepth 100000 in
theorem spec_LongestOnce.calls (k : Nat) (a0 : ByteArray) (a1 : ByteArray) (r1 : ByteArray) (r2 : Bool) (w : World) (h : spec_LongestOnce.f k a0 a1 = some (r1, r2)) :
  Calls Tryd.prog 7 #[.string a0, .string a1] w fun e w' => e = .returned (.tuple #[.string r1, .bool r2]) ∧ Drawn0 w w' := by
 have H : ((spec_wkAsked.f k a0 a1).bind fun t101 => (if t101 = true then ((spec_wkOnce.f k a0 a1).bind fun t102 => (some (t102, true))) else (some ((⟨#[]⟩ : ByteArray), false)))) = some (r1, r2) := h
 clear h
 replace H := Option.bind_eq_some_iff.mp H
 obtain ⟨t101, A30, H⟩ := H
 replace H : (if t101 = true then ((spec_wkOnce.f k a0 a1).bind fun t102 => (some (t102, true))) else (some ((⟨#[]⟩ : ByteArray), false))) = some (r1, r2) := H
 have A3 := Aside0.mk A30
 clear A30
 by_cases c4 : t101 = true
 ·
  subst c4
  have H1 : ((spec_wkOnce.f k a0 a1).bind fun t102 => (some (t102, true))) = some (r1, r2) := by rw [if_pos rfl] at H; exact H
  clear H
  have H := H1
  clear H1
  replace H := Option.bind_eq_some_iff.mp H
  obtain ⟨t102, A50, H⟩ := H
  replace H : (some (t102, true)) = some (r1, r2) := H
  have A5 := Aside0.mk A50
  clear A50
  simp only [Option.some.injEq, Prod.mk.injEq] at H
  obtain ⟨rfl, rfl⟩ := H
  go_enter Tryd.func7, Tryd.ntmps7
  go_wp2_with (first | ((with_reducible refine gate_callee (f := 9) rfl ?_); refine goesL_ (some 8) rfl rfl Tryd.func9 (by kernel_rfl) rfl #[.string a0, .string a1] rfl (by (try simp only [List.map_toArray, List.map_cons, List.map_nil]); first | done | rfl | (simp only [List.length_drop, List.length_take]; rfl)) ?_; (with_reducible refine (spec_wkAsked.calls k a0 a1 true _ A3.out).mono ?_); rintro e w' ⟨rfl, ⟨nd, rfl⟩⟩; refine ⟨_, rfl, ?_⟩) | ((with_reducible refine gate_callee (f := 19) rfl ?_); refine goesL_ (some 12) rfl rfl Tryd.func19 (by kernel_rfl) rfl #[.string a0, .string a1] rfl (by (try simp only [List.map_toArray, List.map_cons, List.map_nil]); first | done | rfl | (simp only [List.length_drop, List.length_take]; rfl)) ?_; (with_reducible refine (spec_wkOnce.calls k a0 a1 t102 _ A5.out).mono ?_); rintro e w' ⟨rfl, ⟨nd, rfl⟩⟩; refine ⟨_, rfl, ?_⟩))
  go_ret2
  exact ⟨by first | rfl | (simp; done) | (simp [*]; done), by repeat (first | exact Drawn0.refl _ | apply Drawn0.step)⟩
 ·
  replace c4 := Bool.eq_false_iff.mpr c4
  subst c4
  have H1 : (some ((⟨#[]⟩ : ByteArray), false)) = some (r1, r2) := by rw [if_neg (show ¬ (false = true) by decide)] at H; exact H
  clear H
  have H := H1
  clear H1
  simp only [Option.some.injEq, Prod.mk.injEq] at H
  obtain ⟨rfl, rfl⟩ := H
  go_enter Tryd.func7, Tryd.ntmps7
  go_wp2_with (first | ((with_reducible refine gate_callee (f := 9) rfl ?_); refine goesL_ (some 8) rfl rfl Tryd.func9 (by kernel_rfl) rfl #[.string a0, .string a1] rfl (by (try simp only [List.map_toArray, List.map_cons, List.map_nil]); first | done | rfl | (simp only [List.length_drop, List.length_take]; rfl)) ?_; (with_reducible refine (spec_wkAsked.calls k a0 a1 false _ A3.out).mono ?_); rintro e w' ⟨rfl, ⟨nd, rfl⟩⟩; refine ⟨_, rfl, ?_⟩))
  go_ret2
  exact ⟨by first | rfl | (simp; done) | (simp [*]; done), by repeat (first | exact Drawn0.refl _ | apply Drawn0.step)⟩

end Go.Proofs.YtgmdahmfmpdegaaDoor.P

-- printed by xprint.py
namespace Go.Proofs.YtgmdahmfmpdegaaDoor.P
open Go.RowKit Go.Proofs.YtgmdahmfmpdegaaDoorW.PrintWords Go.Proofs.YtgmdahmfmpdegaaDoorW.PrintLast Go.Proofs.YtgmdahmfmpdegaaDoorW.PrintMore
attribute [local go_sem] max2_int min2_int max_two min_two max_three min_three max_four min_four   -- for this text's walks alone
set_option linter.unusedVariables false
set_option linter.unusedSimpArgs false

/-! ### laws_FnExactLongestOnce: function 4 -/
def laws_FnExactLongestOnce.f (k : Nat) (a0 : ByteArray) (a1 : ByteArray) : Option (Bool) := if (a0.size : Int) > 1048576 then (some true) else (if (a1.size : Int) > 1048576 then (some true) else ((spec_LongestOnce.f k a0 a1).bind fun bt101 => ((impl_LongestOnce.f k a0 a1).bind fun bt103 => (if bt103.1.toList = bt101.1.toList then (if (bt103.2 != bt101.2) = true then (some false) else (some true)) else (some false)))))
theorem laws_FnExactLongestOnce.mono : ∀ y0 y1 k, LeO (laws_FnExactLongestOnce.f k y0 y1) (laws_FnExactLongestOnce.f (k + 1) y0 y1) := by
 intro y0 y1 k
 unfold laws_FnExactLongestOnce.f
 repeat' first
   | (with_reducible exact impl_LongestOnce.mono _ _ _)
   | (with_reducible exact spec_LongestOnce.mono _ _ _)
   | (with_reducible exact LeO.refl _)
   | (with_reducible exact LeO.none _)
   | (with_reducible refine LeO.ite ?_ ?_)
   | (with_reducible refine LeO.bind ?_ (fun _ => ?_))
   | exact impl_LongestOnce.mono _ _ _
   | exact spec_LongestOnce.mono _ _ _
   | exact LeO.none _
   | refine LeO.ite ?_ ?_
   | refine LeO.bind ?_ (fun _ => ?_)
set_option maxHeartbeats 8000000 in
set_option maxRecDepth 100000 in
theorem laws_FnExactLongestOnce.calls (k : Nat) (a0 : ByteArray) (a1 : ByteArray) (r : Bool) (w : World) (h : laws_FnExactLongestOnce.f k a0 a1 = some r) :
  Calls Tryd.prog 4 #[.string a0, .string a1] w fun e w' => e = .returned (.bool r) ∧ Below w.heap.size w w' := by
 have HB := Aside0.mk (Below.refl w.heap.size w)
 have H : (if (a0.size : Int) > 1048576 then (some true) else (if (a1.size : Int) > 1048576 then (some true) else ((spec_LongestOnce.f k a0 a1).bind fun bt101 => ((impl_LongestOnce.f k a0 a1).bind fun bt103 => (if bt103.1.toList = bt101.1.toList then (if (bt103.2 != bt101.2) = true then (some false) else (some true)) else (some false)))))) = some r := h
 clear h
 by_cases c3 : (a0.size : Int) > 1048576
 ·
  rw [if_pos c3] at H
  have c3b0 : decide (1048576 < (a0.size : Int)) = true := decide_eq_true c3
  have c3b1 : decide (1048576 < a0.size) = true := decide_eq_true (by omega)
  clear c3
  obtain rfl := Option.some.inj H
  go_enter Tryd.func4, Tryd.ntmps4
  go_wp2
  go_ret
  exact ⟨by first | rfl | (simp [errW_none, errW_some] <;> rfl) | (simp [*, errW_none, errW_some] <;> rfl), by repeat (first | (with_reducible first | exact HB.out | apply below_alloc | apply pw_below_drewN | apply below_drew1) | exact HB.out)⟩
 ·
  rw [if_neg c3] at H
  have c3b0 : decide (1048576 < (a0.size : Int)) = false := decide_eq_false c3
  have c3b1 : decide (1048576 < a0.size) = false := decide_eq_false (by omega)
  clear c3
  by_cases c4 : (a1.size : Int) > 1048576
  ·
   rw [if_pos c4] at H
   have c4b0 : decide (1048576 < (a1.size : Int)) = true := decide_eq_true c4
   have c4b1 : decide (1048576 < a1.size) = true := decide_eq_true (by omega)
   clear c4
   obtain rfl := Option.some.inj H
   go_enter Tryd.func4, Tryd.ntmps4
   go_wp2
   go_ret
   exact ⟨by first | rfl | (simp [errW_none, errW_some] <;> rfl) | (simp [*, errW_none, errW_some] <;> rfl), by repeat (first | (with_reducible first | exact HB.out | apply below_alloc | apply pw_below_drewN | apply below_drew1) | exact HB.out)⟩
  ·
   rw [if_neg c4] at H
   have c4b0 : decide (1048576 < (a1.size : Int)) = false := decide_eq_false c4
   have c4b1 : decide (1048576 < a1.size) = false := decide_eq_false (by omega)
   clear c4
   replace H := Option.bind_eq_some_iff.mp H
   obtain ⟨⟨t101, t102⟩, A50, H⟩ := H
   replace H : ((impl_LongestOnce.f k a0 a1).bind fun bt103 => (if bt103.1.toList = t101.toList then (if (bt103.2 != t102) = true then (some false) else (some true)) else (some false))) = some r := H
   have A5 := Aside0.mk A50
   clear A50
   replace H := Option.bind_eq_some_iff.mp H
   obtain ⟨⟨t103, t104⟩, A60, H⟩ := H
   replace H : (if t103.toList = t101.toList then (if (t104 != t102) = true then (some false) else (some true)) else (some false)) = some r := H
   have A6 := Aside0.mk A60
   clear A60
   by_cases c7 : t103.toList = t101.toList
   ·
    rw [if_pos c7] at H
    have c7b0 : (t103.toList == t101.toList) = true := beq_iff_eq.mpr c7
    have c7b1 : (t103.toList != t101.toList) = false := bne_eq_false_iff_eq.mpr c7
    clear c7
    by_cases c8 : (t104 != t102) = true
    ·
     rw [if_pos c8] at H
     have c8b0 : (t104 != t102) = true := c8
     (try (have c8b1 : decide (t104 = t102) = false := by simpa using c8))
     (try (have c8b2 : (t104 == t102) = false := by simpa using c8))
     (try (have c8b3 : ¬ (t104 = t102) := by simpa using c8))
     clear c8
     obtain rfl := Option.some.inj H
     go_enter Tryd.func4, Tryd.ntmps4
     go_wp2_with (first | ((with_reducible refine gate_callee (f := 7) rfl ?_); refine goesL_ (some 18) rfl rfl Tryd.func7 (by kernel_rfl) rfl #[.string a0, .string a1] rfl (by (try simp only [List.map_toArray, List.map_cons, List.map_nil]); first | done | rfl | (simp only [List.length_drop, List.length_take]; rfl)) ?_; (with_reducible refine (spec_LongestOnce.calls k a0 a1 t101 t102 _ A5.out).mono ?_); rintro e w' ⟨rfl, ⟨nd, rfl⟩⟩; refine ⟨_, rfl, ?_⟩) | ((with_reducible refine gate_callee (f := 8) rfl ?_); refine goesL_ (some 24) rfl rfl Tryd.func8 (by kernel_rfl) rfl #[.string a0, .string a1] rfl (by (try simp only [List.map_toArray, List.map_cons, List.map_nil]); first | done | rfl | (simp only [List.length_drop, List.length_take]; rfl)) ?_; (with_reducible refine (impl_LongestOnce.calls k a0 a1 t103 t104 _ A6.out).mono ?_); rintro e w9 ⟨rfl, hb⟩; refine ⟨_, rfl, ?_⟩; have n0_ := Aside0.mk (below_step (by repeat (first | (with_reducible first | exact HB.out | apply below_alloc | apply pw_below_drewN | apply below_drew1) | exact HB.out)) hb); clear HB; have HB := n0_; clear n0_; (try clear hb); (try clear hb2); (try clear hk); (try clear hi)))
     go_ret
     exact ⟨by first | rfl | (simp [errW_none, errW_some] <;> rfl) | (simp [*, errW_none, errW_some] <;> rfl), by repeat (first | (with_reducible first | exact HB.out | apply below_alloc | apply pw_below_drewN | apply below_drew1) | exact HB.out)⟩
    ·
     rw [if_neg c8] at H
     have c8b0 : (t104 != t102) = false := by simpa using c8
     (try (have c8b1 : decide (t104 = t102) = true := by simpa using c8))
     (try (have c8b2 : (t104 == t102) = true := by simpa using c8))
     clear c8
     obtain rfl := Option.some.inj H
     go_enter Tryd.func4, Tryd.ntmps4
     go_wp2_with (first | ((with_reducible refine gate_callee (f := 7) rfl ?_); refine goesL_ (some 18) rfl rfl Tryd.func7 (by kernel_rfl) rfl #[.string a0, .string a1] rfl (by (try simp only [List.map_toArray, List.map_cons, List.map_nil]); first | done | rfl | (simp only [List.length_drop, List.length_take]; rfl)) ?_; (with_reducible refine (spec_LongestOnce.calls k a0 a1 t101 t102 _ A5.out).mono ?_); rintro e w' ⟨rfl, ⟨nd, rfl⟩⟩; refine ⟨_, rfl, ?_⟩) | ((with_reducible refine gate_callee (f := 8) rfl ?_); refine goesL_ (some 24) rfl rfl Tryd.func8 (by kernel_rfl) rfl #[.string a0, .string a1] rfl (by (try simp only [List.map_toArray, List.map_cons, List.map_nil]); first | done | rfl | (simp only [List.length_drop, List.length_take]; rfl)) ?_; (with_reducible refine (impl_LongestOnce.calls k a0 a1 t103 t104 _ A6.out).mono ?_); rintro e w10 ⟨rfl, hb⟩; refine ⟨_, rfl, ?_⟩; have n0_ := Aside0.mk (below_step (by repeat (first | (with_reducible first | exact HB.out | apply below_alloc | apply pw_below_drewN | apply below_drew1) | exact HB.out)) hb); clear HB; have HB := n0_; clear n0_; (try clear hb); (try clear hb2); (try clear hk); (try clear hi)))
     go_ret
     exact ⟨by first | rfl | (simp [errW_none, errW_some] <;> rfl) | (simp [*, errW_none, errW_some] <;> rfl), by repeat (first | (with_reducible first | exact HB.out | apply below_alloc | apply pw_below_drewN | apply below_drew1) | exact HB.out)⟩
   ·
    rw [if_neg c7] at H
    have c7b0 : (t103.toList == t101.toList) = false := beq_eq_false_iff_ne.mpr c7
    have c7b1 : (t103.toList != t101.toList) = true := bne_iff_ne.mpr c7
    obtain rfl := Option.some.inj H
    go_enter Tryd.func4, Tryd.ntmps4
    go_wp2_with (first | ((with_reducible refine gate_callee (f := 7) rfl ?_); refine goesL_ (some 18) rfl rfl Tryd.func7 (by kernel_rfl) rfl #[.string a0, .string a1] rfl (by (try simp only [List.map_toArray, List.map_cons, List.map_nil]); first | done | rfl | (simp only [List.length_drop, List.length_take]; rfl)) ?_; (with_reducible refine (spec_LongestOnce.calls k a0 a1 t101 t102 _ A5.out).mono ?_); rintro e w' ⟨rfl, ⟨nd, rfl⟩⟩; refine ⟨_, rfl, ?_⟩) | ((with_reducible refine gate_callee (f := 8) rfl ?_); refine goesL_ (some 24) rfl rfl Tryd.func8 (by kernel_rfl) rfl #[.string a0, .string a1] rfl (by (try simp only [List.map_toArray, List.map_cons, List.map_nil]); first | done | rfl | (simp only [List.length_drop, List.length_take]; rfl)) ?_; (with_reducible refine (impl_LongestOnce.calls k a0 a1 t103 t104 _ A6.out).mono ?_); rintro e w11 ⟨rfl, hb⟩; refine ⟨_, rfl, ?_⟩; have n0_ := Aside0.mk (below_step (by repeat (first | (with_reducible first | exact HB.out | apply below_alloc | apply pw_below_drewN | apply below_drew1) | exact HB.out)) hb); clear HB; have HB := n0_; clear n0_; (try clear hb); (try clear hb2); (try clear hk); (try clear hi)))
    go_ret
    exact ⟨by first | rfl | (simp [errW_none, errW_some] <;> rfl) | (simp [*, errW_none, errW_some] <;> rfl), by repeat (first | (with_reducible first | exact HB.out | apply below_alloc | apply pw_below_drewN | apply below_drew1) | exact HB.out)⟩

end Go.Proofs.YtgmdahmfmpdegaaDoor.P

namespace Go.Proofs.YtgmdahmfmpdegaaDoor
open Go.RowKit Go.Proofs.YtgmdahmfmpdegaaDoor.P Go.Proofs.YtgmdahmfmpdegaaDoorW.PrintWords Go.Proofs.YtgmdahmfmpdegaaDoorW.PrintLast
/-- The pure statement of FnExactLongestOnce. -/
def PureFnExactLongestOnce : Prop := ∀ (a0 : ByteArray) (a1 : ByteArray), a0.size ≤ 9223372036854775807 → a1.size ≤ 9223372036854775807 →  ∃ k, laws_FnExactLongestOnce.f k a0 a1 = some true
end Go.Proofs.YtgmdahmfmpdegaaDoor

namespace Go.Proofs.YtgmdahmfmpdegaaDoor
open Go.RowKit Go.Proofs.YtgmdahmfmpdegaaDoorW.PrintWords
/-! Plain words for the pure statements: answers that stand from some number of rounds on. -/
theorem Ev.succ {α : Type} {g : Nat → Option α} {r : α} (h : Ev (fun k => g (k + 1)) r) : Ev g r := Ev.step (fun _ => rfl) h
theorem Ev.const {α : Type} {a : Option α} {r : α} (h : a = some r) : Ev (fun _ => a) r := ⟨0, fun _ _ => h⟩
theorem Ev.pos {α : Type} {c : Prop} [Decidable c] {g f : Nat → Option α} {r : α} (hc : c) (h : Ev g r) : Ev (fun k => if c then g k else f k) r := by simp only [if_pos hc]; exact h
theorem Ev.neg {α : Type} {c : Prop} [Decidable c] {g f : Nat → Option α} {r : α} (hc : ¬ c) (h : Ev f r) : Ev (fun k => if c then g k else f k) r := by simp only [if_neg hc]; exact h
theorem Ev.yes {α : Type} {c : Prop} [Decidable c] {g f : Nat → Option α} {r : α} (h : Ev g r) (hc : c := by first | omega | rfl | trivial | decide | simp | (simp; omega)) : Ev (fun k => if c then g k else f k) r := Ev.pos hc h
theorem Ev.no {α : Type} {c : Prop} [Decidable c] {g f : Nat → Option α} {r : α} (h : Ev f r) (hc : ¬ c := by first | omega | decide | simp | (simp; omega)) : Ev (fun k => if c then g k else f k) r := Ev.neg hc h
theorem Ev.bindc {α β : Type} {a : Option α} {x : α} {f : Nat → α → Option β} {r : β} (h : a = some x) (k : Ev (fun n => f n x) r) : Ev (fun n => a.bind (f n)) r := by subst h; exact k
theorem wrap_id {n : Int} (h1 : -9223372036854775808 ≤ n) (h2 : n ≤ 9223372036854775807) : wrap64 n = n := IntWalk.wrap64_in n ⟨h1, h2⟩
theorem wf_i64 {n : Int} (h : (Lit.int .i64 n).wf = true) : -9223372036854775808 ≤ n ∧ n ≤ 9223372036854775807 := by
  have e1 : IntKind.i64.min = -9223372036854775808 := rfl
  have e2 : IntKind.i64.max = 9223372036854775807 := rfl
  simp only [Lit.wf, e1, e2, Bool.and_eq_true, decide_eq_true_eq] at h
  exact h
theorem rd_nat (l : List Int) (j : Nat) (h : j < l.length) : rd l (j : Int) = l[j] := by unfold rd; simp [List.getD, h]
end Go.Proofs.YtgmdahmfmpdegaaDoor

namespace Go.Proofs.YtgmdahmfmpdegaaDoor
open Go.RowKit Go.Proofs.YtgmdahmfmpdegaaDoorW.PrintWords
set_option linter.unusedSimpArgs false
set_option linter.unusedVariables false
/-! Strings as lists of bytes. -/
/-- A string's bytes. -/
def bl (s : ByteArray) : List UInt8 := s.data.toList
theorem bl_len (s : ByteArray) : s.size = (bl s).length := rfl
theorem bl_inj {s t : ByteArray} (h : bl s = bl t) : s = t := ByteArray.ext (Array.toList_inj.1 h)
theorem bl_toList (s : ByteArray) : s.toList = bl s := Go.ByteArray.toList_eq s
theorem bl_mk (a : Array UInt8) : bl ⟨a⟩ = a.toList := rfl
theorem mk_bl (s : ByteArray) : (⟨(bl s).toArray⟩ : ByteArray) = s := bl_inj (by simp [bl])
theorem bl_extract (s : ByteArray) (i j : Nat) : bl (s.extract i j) = ((bl s).drop i).take (j - i) := by simp [bl, ByteArray.data_extract]
theorem bl_append (s t : ByteArray) : bl (s ++ t) = bl s ++ bl t := by simp [bl, ByteArray.data_append]
theorem bl_nums (l : List Int) : bl (strOfNums l) = l.map fun n => UInt8.ofNat n.toNat := rfl
theorem bl_empty : bl (⟨#[]⟩ : ByteArray) = [] := rfl
theorem bt_nat (s : ByteArray) (i : Nat) (h : i < (bl s).length) : bt s (i : Int) = ((bl s)[i].toNat : Int) := by
  unfold bt
  have h' : ((i : Int)).toNat < s.size := by rw [Int.toNat_natCast]; exact h
  rw [dif_pos h']; rfl
theorem of_toNat (c : UInt8) : UInt8.ofNat ((c.toNat : Int)).toNat = c := by rw [Int.toNat_natCast]; simp
theorem bt_of (s : ByteArray) (i : Nat) (h : i < (bl s).length) : UInt8.ofNat (bt s (i : Int)).toNat = (bl s)[i] := by rw [bt_nat s i h]; exact of_toNat _
theorem byte_eq (c d : UInt8) : ((c.toNat : Int) = (d.toNat : Int)) ↔ c = d := by
  constructor
  · intro h; exact UInt8.toNat_inj.1 (by exact_mod_cast h)
  · intro h; rw [h]
theorem byte_lt (c d : UInt8) : ((c.toNat : Int) < (d.toNat : Int)) ↔ c < d := by rw [UInt8.lt_iff_toNat_lt]; omega
theorem byte_le (c d : UInt8) : ((c.toNat : Int) ≤ (d.toNat : Int)) ↔ c ≤ d := by rw [UInt8.le_iff_toNat_le]; omega
theorem dropWhile_nil {α : Type} (p : α → Bool) : ∀ l : List α, l.dropWhile p = [] ↔ l.all p = true
  | [] => by simp
  | x :: xs => by
    by_cases h : p x = true
    · simp [List.dropWhile_cons, h, dropWhile_nil p xs]
    · simp [List.dropWhile_cons, h]
theorem dropWhile_keeps {α : Type} (p : α → Bool) : ∀ l : List α, (l.dropWhile p).all p = l.all p
  | [] => rfl
  | x :: xs => by
    by_cases h : p x = true
    · simp only [List.dropWhile_cons, h, if_true, List.all_cons, Bool.true_and]; exact dropWhile_keeps p xs
    · simp [List.dropWhile_cons, h]
theorem trimS_nil (l cs : List UInt8) : Lib.trimS l cs = [] ↔ l.all (cs.contains ·) = true := by
  unfold Lib.trimS Lib.trimLeftS Lib.trimRightS
  rw [dropWhile_nil, List.all_reverse, dropWhile_keeps, List.all_reverse]
theorem indexByte_neg (l : List UInt8) (c : UInt8) : Lib.indexByte l c < 0 ↔ ¬ c ∈ l := by
  induction l with
  | nil => simp [Lib.indexByte]
  | cons b l ih =>
    have hge := Lib.indexByte_ge l c
    unfold Lib.indexByte
    by_cases h : b = c
    · subst h; simp
    · have h1 : (b == c) = false := by simpa using h
      rw [h1]
      have h2 : ¬ c = b := fun e => h e.symm
      simp only [Bool.false_eq_true, if_false, List.mem_cons, h2, false_or]
      by_cases e : Lib.indexByte l c = -1
      · simp only [e, beq_self_eq_true, if_true]
        have := ih.1 (by omega)
        simp [this]
      · have e' : (Lib.indexByte l c == -1) = false := by simpa using e
        rw [e']
        simp only [Bool.false_eq_true, if_false]
        have hp : ¬ Lib.indexByte l c < 0 := by omega
        have := mt ih.2 hp
        constructor
        · intro h3; omega
        · intro h3; exact absurd h3 this
/-- The letters. -/
def isLow (c : UInt8) : Bool := decide (97 ≤ c.toNat) && decide (c.toNat ≤ 122)
theorem u8_all (P : UInt8 → Prop) [DecidablePred P] (h : ∀ n, n < 256 → P (UInt8.ofNat n)) (c : UInt8) : P c := by
  have := h c.toNat c.toNat_lt
  rwa [show UInt8.ofNat c.toNat = c from by simp] at this
theorem low_contains (c : UInt8) : ([97, 98, 99, 100, 101, 102, 103, 104, 105, 106, 107, 108, 109, 110, 111, 112, 113, 114, 115, 116, 117, 118, 119, 120, 121, 122] : List UInt8).contains c = isLow c := by
  refine u8_all (fun c => _ = isLow c) ?_ c
  decide +kernel
theorem dig_contains (c : UInt8) : ([48, 49, 50, 51, 52, 53, 54, 55, 56, 57] : List UInt8).contains c = (decide (48 ≤ c.toNat) && decide (c.toNat ≤ 57)) := by
  refine u8_all (fun c => _ = (decide (48 ≤ c.toNat) && decide (c.toNat ≤ 57))) ?_ c
  decide +kernel
end Go.Proofs.YtgmdahmfmpdegaaDoor

namespace Go.Proofs.YtgmdahmfmpdegaaDoor
open Go.RowKit Go.Proofs.YtgmdahmfmpdegaaDoor.P Go.Proofs.YtgmdahmfmpdegaaDoorW.PrintWords
set_option linter.unusedSimpArgs false
set_option linter.unusedVariables false
theorem in_eq (n a b : Int) : impl_in.f n a b = some (decide (a ≤ n) && decide (n ≤ b)) := by
  unfold impl_in.f
  by_cases h : a ≤ n
  · rw [if_pos h]; simp [h]
  · rw [if_neg h]; simp [h]
theorem l1In_eq (n a b : Int) : spec_l1In.f n a b = some (decide (a ≤ n) && decide (n ≤ b)) := by
  unfold spec_l1In.f
  by_cases h : a ≤ n
  · rw [if_pos h]; simp [h]
  · rw [if_neg h]; simp [h]
end Go.Proofs.YtgmdahmfmpdegaaDoor

namespace Go.Proofs.YtgmdahmfmpdegaaDoor
open Go.RowKit Go.Proofs.YtgmdahmfmpdegaaDoor.P Go.Proofs.YtgmdahmfmpdegaaDoorW.PrintWords
set_option linter.unusedSimpArgs false
set_option linter.unusedVariables false
theorem over_eq (s cs : ByteArray) (h1 : s.size ≤ 9223372036854775807) (h2 : cs.size < 4294967281) (h3 : (bl cs).all (fun b => decide (b.toNat < 128)) = true) : impl_over.f s cs = some ((bl s).all ((bl cs).contains ·)) := by
  unfold impl_over.f strings_Trim.f
  rw [if_pos ⟨h1, h2, h3⟩]
  simp only [Option.bind_some]
  congr 1
  rw [bl_toList, bl_mk, List.toList_toArray]
  have := trimS_nil (bl s) (bl cs)
  unfold bl at this ⊢
  rw [Bool.eq_iff_iff, beq_iff_eq]
  exact this
/-- Is it a digit's sign? -/
def isDig (c : UInt8) : Bool := decide (48 ≤ c.toNat) && decide (c.toNat ≤ 57)
theorem overDig_eq (s : ByteArray) (h1 : s.size ≤ 9223372036854775807) : impl_over.f s (⟨#[48, 49, 50, 51, 52, 53, 54, 55, 56, 57]⟩ : ByteArray) = some ((bl s).all isDig) := by
  rw [over_eq s _ h1 (by decide) (by decide)]
  congr 1
  congr 1
  funext c
  exact dig_contains c
/-- Digits, of a length. -/
def digsB (l : List UInt8) (a b : Nat) : Bool := decide (a ≤ l.length) && decide (l.length ≤ b) && l.all isDig
theorem isDigits_eq (s : ByteArray) (a b : Nat) (h1 : s.size ≤ 9223372036854775807) : impl_isDigits.f s a b = some (digsB (bl s) a b) := by
  unfold impl_isDigits.f digsB
  rw [in_eq]
  have e : (decide ((a : Int) ≤ (s.size : Int)) && decide ((s.size : Int) ≤ (b : Int))) = (decide (a ≤ (bl s).length) && decide ((bl s).length ≤ b)) := by
    rw [bl_len]; congr 1 <;> (rw [decide_eq_decide]; omega)
  rw [e]
  simp only [Option.bind_some]
  cases (decide (a ≤ (bl s).length) && decide ((bl s).length ≤ b)) with
  | false => rfl
  | true => rw [if_pos rfl, overDig_eq s h1]; rfl
theorem isDig_at {l : List UInt8} (h : l.all isDig = true) (i : Nat) (hi : i < l.length) : 48 ≤ l[i].toNat ∧ l[i].toNat ≤ 57 := by
  have := List.all_eq_true.1 h _ (List.getElem_mem hi)
  unfold isDig at this
  simpa only [Bool.and_eq_true, decide_eq_true_eq] using this
end Go.Proofs.YtgmdahmfmpdegaaDoor

namespace Go.Proofs.YtgmdahmfmpdegaaDoor
open Go.RowKit Go.Proofs.YtgmdahmfmpdegaaDoor.P Go.Proofs.YtgmdahmfmpdegaaDoorW.PrintWords
set_option linter.unusedSimpArgs false
set_option linter.unusedVariables false
theorem wkDigits_l0 (s : ByteArray) (hs : s.size ≤ 9223372036854775806) : ∀ (d i : Nat), i + d = s.size → Ev (fun k => spec_wkDigits.l0 k s i) (((bl s).drop i).all isDig)
  | 0, i, hi => by
    apply Ev.succ
    simp only [spec_wkDigits.l0]
    refine Ev.neg (by omega) (Ev.const ?_)
    rw [List.drop_of_length_le (by rw [← bl_len]; omega)]; rfl
  | d + 1, i, hi => by
    have hlt : i < (bl s).length := by rw [← bl_len]; omega
    apply Ev.succ
    simp only [spec_wkDigits.l0]
    refine Ev.pos (by omega) (Ev.pos (by omega) ?_)
    rw [wrap_id (by omega) (by omega), bt_nat s i hlt, List.drop_eq_getElem_cons hlt, List.all_cons]
    by_cases c1 : ((bl s)[i].toNat : Int) < 48
    · refine Ev.pos c1 (Ev.const ?_)
      have : isDig (bl s)[i] = false := by unfold isDig; rw [Bool.and_eq_false_iff]; left; rw [decide_eq_false_iff_not]; omega
      rw [this]; rfl
    · refine Ev.neg c1 ?_
      by_cases c2 : ((bl s)[i].toNat : Int) > 57
      · refine Ev.pos c2 (Ev.const ?_)
        have : isDig (bl s)[i] = false := by unfold isDig; rw [Bool.and_eq_false_iff]; right; rw [decide_eq_false_iff_not]; omega
        rw [this]; rfl
      · refine Ev.neg c2 ?_
        have : isDig (bl s)[i] = true := by unfold isDig; rw [Bool.and_eq_true, decide_eq_true_eq, decide_eq_true_eq]; omega
        rw [this, Bool.true_and]
        exact_mod_cast wkDigits_l0 s hs d (i + 1) (by omega)
theorem wkDigits_ev (s : ByteArray) : Ev (fun k => spec_wkDigits.f k s) (digsB (bl s) 1 40) := by
  unfold spec_wkDigits.f digsB
  refine Ev.bindc (l1In_eq _ _ _) ?_
  have e : (decide ((1 : Int) ≤ (s.size : Int)) && decide ((s.size : Int) ≤ 40)) = (decide (1 ≤ (bl s).length) && decide ((bl s).length ≤ 40)) := by
    rw [bl_len]; congr 1 <;> (rw [decide_eq_decide]; omega)
  rw [e]
  cases h : (decide (1 ≤ (bl s).length) && decide ((bl s).length ≤ 40)) with
  | false => exact Ev.no (Ev.now _)
  | true =>
    have : s.size ≤ 40 := by simp only [Bool.and_eq_true, decide_eq_true_eq] at h; rw [bl_len]; omega
    refine Ev.yes ?_
    rw [Bool.true_and]
    exact wkDigits_l0 s (by omega) s.size 0 (by omega)
end Go.Proofs.YtgmdahmfmpdegaaDoor

namespace Go.Proofs.YtgmdahmfmpdegaaDoor
open Go.RowKit Go.Proofs.YtgmdahmfmpdegaaDoorW.PrintWords
set_option linter.unusedSimpArgs false
set_option linter.unusedVariables false
/-- Is it a piece? -/
def pieceB (l : List UInt8) : Bool := decide (l = [110]) || decide (l = [107]) || decide (l = [114]) || decide (l = [98])
theorem pieceB_of {s : ByteArray} (h : pieceB (bl s) = true) : s = ⟨#[110]⟩ ∨ s = ⟨#[107]⟩ ∨ s = ⟨#[114]⟩ ∨ s = ⟨#[98]⟩ := by
  unfold pieceB at h
  simp only [Bool.or_eq_true, decide_eq_true_eq] at h
  rcases h with ((h | h) | h) | h
  · exact .inl (bl_inj h)
  · exact .inr (.inl (bl_inj h))
  · exact .inr (.inr (.inl (bl_inj h)))
  · exact .inr (.inr (.inr (bl_inj h)))
end Go.Proofs.YtgmdahmfmpdegaaDoor

namespace Go.Proofs.YtgmdahmfmpdegaaDoor
open Go.RowKit Go.Proofs.YtgmdahmfmpdegaaDoor.P Go.Proofs.YtgmdahmfmpdegaaDoorW.PrintWords
set_option linter.unusedSimpArgs false
set_option linter.unusedVariables false
/-- The next digits of all digits. -/
def tbl (p : ByteArray) : List (List Int) := (impl_moves.f 300 p).getD []
def isPc (p : ByteArray) : Prop := p = ⟨#[110]⟩ ∨ p = ⟨#[107]⟩ ∨ p = ⟨#[114]⟩ ∨ p = ⟨#[98]⟩
theorem isPc_of {s : ByteArray} (h : pieceB (bl s) = true) : isPc s := pieceB_of h
theorem tbl_n : (impl_moves.f 300 ⟨#[110]⟩).isSome = true := by decide +kernel
theorem tbl_k : (impl_moves.f 300 ⟨#[107]⟩).isSome = true := by decide +kernel
theorem tbl_r : (impl_moves.f 300 ⟨#[114]⟩).isSome = true := by decide +kernel
theorem tbl_b : (impl_moves.f 300 ⟨#[98]⟩).isSome = true := by decide +kernel
theorem moves_at {p : ByteArray} (h : isPc p) : impl_moves.f 300 p = some (tbl p) := by
  have : (impl_moves.f 300 p).isSome = true := by
    rcases h with rfl | rfl | rfl | rfl
    · exact tbl_n
    · exact tbl_k
    · exact tbl_r
    · exact tbl_b
  obtain ⟨l, hl⟩ := Option.isSome_iff_exists.1 this
  unfold tbl; rw [hl]; rfl
theorem moves_ev {p : ByteArray} (h : isPc p) : Ev (fun k => impl_moves.f k p) (tbl p) := Ev.of (impl_moves.mono _) (moves_at h)
theorem tbl_shape {p : ByteArray} (h : isPc p) : (tbl p).length = 10 ∧ ∀ l ∈ tbl p, l.length ≤ 8 ∧ ∀ x ∈ l, 0 ≤ x ∧ x < 10 := by
  rcases h with rfl | rfl | rfl | rfl <;> decide +kernel
theorem rd_tbl {p : ByteArray} (h : isPc p) (d : Nat) (hd : d < 10) : (tbl p).getD d [] ∈ tbl p := by
  have := (tbl_shape h).1
  rw [List.getD_eq_getElem?_getD, List.getElem?_eq_getElem (by omega)]
  exact List.getElem_mem _
end Go.Proofs.YtgmdahmfmpdegaaDoor

namespace Go.Proofs.YtgmdahmfmpdegaaDoor
open Go.RowKit Go.Proofs.YtgmdahmfmpdegaaDoor.P Go.Proofs.YtgmdahmfmpdegaaDoorW.PrintWords
set_option linter.unusedSimpArgs false
set_option linter.unusedVariables false
theorem goes_n : ∀ d e : Fin 10, spec_wkGoes.f 100 ⟨#[110]⟩ (48 + d.val) (48 + e.val) = some (decide ((e.val : Int) ∈ (tbl ⟨#[110]⟩).getD d.val [])) := by decide +kernel
theorem goes_k : ∀ d e : Fin 10, spec_wkGoes.f 100 ⟨#[107]⟩ (48 + d.val) (48 + e.val) = some (decide ((e.val : Int) ∈ (tbl ⟨#[107]⟩).getD d.val [])) := by decide +kernel
theorem goes_r : ∀ d e : Fin 10, spec_wkGoes.f 100 ⟨#[114]⟩ (48 + d.val) (48 + e.val) = some (decide ((e.val : Int) ∈ (tbl ⟨#[114]⟩).getD d.val [])) := by decide +kernel
theorem goes_b : ∀ d e : Fin 10, spec_wkGoes.f 100 ⟨#[98]⟩ (48 + d.val) (48 + e.val) = some (decide ((e.val : Int) ∈ (tbl ⟨#[98]⟩).getD d.val [])) := by decide +kernel
theorem goes_ev {p : ByteArray} (h : isPc p) (d e : Nat) (hd : d < 10) (he : e < 10) : Ev (fun k => spec_wkGoes.f k p (48 + d) (48 + e)) (decide ((e : Int) ∈ (tbl p).getD d [])) := by
  refine Ev.of (k := 100) (spec_wkGoes.mono _ _ _) ?_
  rcases h with rfl | rfl | rfl | rfl
  · exact goes_n ⟨d, hd⟩ ⟨e, he⟩
  · exact goes_k ⟨d, hd⟩ ⟨e, he⟩
  · exact goes_r ⟨d, hd⟩ ⟨e, he⟩
  · exact goes_b ⟨d, hd⟩ ⟨e, he⟩
theorem idx_l0 (l : List Int) (x : Int) (hl : l.length ≤ 1000000) : ∀ (d i : Nat), i + d = l.length → ∃ r, Ev (fun k => slices_Index_int_int.l0 k l x (l.length : Int) i) r ∧ (0 ≤ r ↔ x ∈ l.drop i)
  | 0, i, hi => by
    refine ⟨-1, ?_, ?_⟩
    · apply Ev.succ; simp only [slices_Index_int_int.l0]; exact Ev.neg (by omega) (Ev.now _)
    · rw [List.drop_of_length_le (by omega)]; simp
  | d + 1, i, hi => by
    have hlt : i < l.length := by omega
    obtain ⟨r, hr, h⟩ := idx_l0 l x hl d (i + 1) (by omega)
    rw [List.drop_eq_getElem_cons hlt]
    by_cases e : x = l[i]
    · refine ⟨i, ?_, ?_⟩
      · apply Ev.succ; simp only [slices_Index_int_int.l0]
        rw [rd_nat l i hlt]
        exact Ev.yes (Ev.yes (Ev.yes (Ev.pos e (Ev.now _))))
      · exact ⟨fun _ => List.mem_cons.2 (.inl e), fun _ => by omega⟩
    · refine ⟨r, ?_, ?_⟩
      · apply Ev.succ; simp only [slices_Index_int_int.l0]
        rw [rd_nat l i hlt, wrap_id (by omega) (by omega)]
        refine Ev.yes (Ev.yes (Ev.yes (Ev.neg e ?_)))
        exact_mod_cast hr
      · rw [h, List.mem_cons]
        exact ⟨.inr, fun h' => h'.elim (fun h'' => absurd h'' e) id⟩
theorem contains_ev (l : List Int) (x : Int) (hl : l.length ≤ 1000000) : Ev (fun k => slices_Contains_int_int.f k l x) (decide (x ∈ l)) := by
  obtain ⟨r, hr, h⟩ := idx_l0 l x hl l.length 0 (by omega)
  unfold slices_Contains_int_int.f slices_Index_int_int.f
  refine Ev.bind hr (Ev.const ?_)
  congr 1
  rw [decide_eq_decide]
  rw [List.drop_zero] at h
  exact h
end Go.Proofs.YtgmdahmfmpdegaaDoor

namespace Go.Proofs.YtgmdahmfmpdegaaDoor
open Go.RowKit Go.Proofs.YtgmdahmfmpdegaaDoor.P Go.Proofs.YtgmdahmfmpdegaaDoorW.PrintWords
set_option linter.unusedSimpArgs false
set_option linter.unusedVariables false
/-- Digits as a text. -/
def digsOf (l : List Int) : ByteArray := ⟨(l.map fun e => UInt8.ofNat (48 + e.toNat)).toArray⟩
theorem wkNext_n : ∀ d : Fin 10, spec_wkNext.f 200 ⟨#[110]⟩ (48 + d.val) = some (digsOf ((tbl ⟨#[110]⟩).getD d.val [])) := by decide +kernel
theorem wkNext_k : ∀ d : Fin 10, spec_wkNext.f 200 ⟨#[107]⟩ (48 + d.val) = some (digsOf ((tbl ⟨#[107]⟩).getD d.val [])) := by decide +kernel
theorem wkNext_r : ∀ d : Fin 10, spec_wkNext.f 200 ⟨#[114]⟩ (48 + d.val) = some (digsOf ((tbl ⟨#[114]⟩).getD d.val [])) := by decide +kernel
theorem wkNext_b : ∀ d : Fin 10, spec_wkNext.f 200 ⟨#[98]⟩ (48 + d.val) = some (digsOf ((tbl ⟨#[98]⟩).getD d.val [])) := by decide +kernel
theorem wkNext_ev {p : ByteArray} (h : isPc p) (d : Nat) (hd : d < 10) : Ev (fun k => spec_wkNext.f k p (48 + d)) (digsOf ((tbl p).getD d [])) := by
  refine Ev.of (k := 200) (spec_wkNext.mono _ _) ?_
  rcases h with rfl | rfl | rfl | rfl
  · exact wkNext_n ⟨d, hd⟩
  · exact wkNext_k ⟨d, hd⟩
  · exact wkNext_r ⟨d, hd⟩
  · exact wkNext_b ⟨d, hd⟩
theorem digsOf_len (l : List Int) : (digsOf l).size = l.length := by show (List.toArray _).size = _; simp
theorem digsOf_bt (l : List Int) (hx : ∀ x ∈ l, 0 ≤ x ∧ x < 10) (j : Nat) (h : j < l.length) : bt (digsOf l) (j : Int) = 48 + l[j] := by
  have hl : (bl (digsOf l)).length = l.length := by rw [← bl_len, digsOf_len]
  rw [bt_nat (digsOf l) j (by omega)]
  have e : (bl (digsOf l))[j]'(by omega) = UInt8.ofNat (48 + l[j].toNat) := by
    have : bl (digsOf l) = l.map fun e => UInt8.ofNat (48 + e.toNat) := by show (List.toArray _).toList = _; simp
    simp only [this, List.getElem_map]
  rw [e]
  have hx' := hx _ (List.getElem_mem h)
  rw [UInt8.toNat_ofNat']
  omega
end Go.Proofs.YtgmdahmfmpdegaaDoor

namespace Go.Proofs.YtgmdahmfmpdegaaDoor
open Go.RowKit Go.Proofs.YtgmdahmfmpdegaaDoor.P Go.Proofs.YtgmdahmfmpdegaaDoorW.PrintWords
set_option linter.unusedSimpArgs false
set_option linter.unusedVariables false
theorem isPiece_eq (s : ByteArray) : impl_isPiece.f s = some (pieceB (bl s)) := by
  unfold impl_isPiece.f strings_Contains.f
  have e : (s.size : Int) = 1 ↔ (bl s).length = 1 := by rw [bl_len]; omega
  cases h : bl s with
  | nil => rw [if_neg (by rw [e, h]; simp)]; rfl
  | cons c r =>
    cases r with
    | cons d r => rw [if_neg (by rw [e, h]; simp)]; simp [pieceB]
    | nil =>
      rw [if_pos (by rw [e, h]; rfl), if_pos (by rw [bl_len, h]; rfl)]
      have hd : s.data.toList = [c] := h
      simp only [Option.bind_some, hd]
      congr 1
      refine u8_all (fun c => decide (0 ≤ Lib.indexByte [110, 107, 114, 98] c) = pieceB [c]) ?_ c
      decide +kernel
theorem wkPiece_eq (s : ByteArray) : spec_wkPiece.f s = some (pieceB (bl s)) := by
  unfold spec_wkPiece.f pieceB
  rw [bl_toList]
  by_cases h1 : bl s = [110]
  · rw [if_pos h1, decide_eq_true h1]; rfl
  · rw [if_neg h1, decide_eq_false h1]
    by_cases h2 : bl s = [107]
    · rw [if_pos h2, decide_eq_true h2]; rfl
    · rw [if_neg h2, decide_eq_false h2]
      by_cases h3 : bl s = [114]
      · rw [if_pos h3, decide_eq_true h3]; rfl
      · rw [if_neg h3, decide_eq_false h3]; simp only [Bool.false_or]; congr 1; rw [Bool.eq_iff_iff, beq_iff_eq, decide_eq_true_eq]
end Go.Proofs.YtgmdahmfmpdegaaDoor

namespace Go.Proofs.YtgmdahmfmpdegaaDoor
open Go.RowKit Go.Proofs.YtgmdahmfmpdegaaDoor.P Go.Proofs.YtgmdahmfmpdegaaDoorW.PrintWords
set_option linter.unusedSimpArgs false
set_option linter.unusedVariables false
theorem isDigit_eq (s : ByteArray) (h1 : s.size ≤ 9223372036854775807) : impl_isDigit.f s = some (digsB (bl s) 1 1) := by
  unfold impl_isDigit.f
  rw [show impl_isDigits.f s 1 1 = some (digsB (bl s) 1 1) from isDigits_eq s 1 1 h1]; rfl
theorem digit_of {s : ByteArray} (h : digsB (bl s) 1 1 = true) : ∃ d : Nat, d < 10 ∧ s = ⟨#[UInt8.ofNat (48 + d)]⟩ := by
  unfold digsB at h
  simp only [Bool.and_eq_true, decide_eq_true_eq] at h
  have hl : (bl s).length = 1 := by omega
  obtain ⟨c, hc⟩ := List.length_eq_one_iff.1 hl
  have hd := isDig_at h.2 0 (by omega)
  simp only [hc, List.getElem_cons_zero] at hd
  refine ⟨c.toNat - 48, by omega, bl_inj ?_⟩
  rw [hc, bl_mk]
  show [c] = [UInt8.ofNat (48 + (c.toNat - 48))]
  rw [show 48 + (c.toNat - 48) = c.toNat from by omega]; simp
theorem wkAsked_ev (a s : ByteArray) : Ev (fun k => spec_wkAsked.f k a s) (pieceB (bl a) && digsB (bl s) 1 1) := by
  unfold spec_wkAsked.f
  refine Ev.bindc (wkPiece_eq a) ?_
  cases pieceB (bl a) with
  | false => exact Ev.no (Ev.now _)
  | true =>
    refine Ev.yes (Ev.bind (wkDigits_ev s) ?_)
    rw [Bool.true_and]
    cases h : digsB (bl s) 1 40 with
    | false =>
      refine Ev.no (Ev.const ?_)
      have : digsB (bl s) 1 1 = false := by
        rw [Bool.eq_false_iff]; intro h'; rw [Bool.eq_false_iff] at h; apply h
        unfold digsB at h' ⊢
        simp only [Bool.and_eq_true, decide_eq_true_eq] at h' ⊢
        exact ⟨⟨by omega, by omega⟩, h'.2⟩
      rw [this]
    | true =>
      refine Ev.yes (Ev.const ?_)
      unfold digsB at h ⊢
      simp only [Bool.and_eq_true, decide_eq_true_eq] at h
      rw [h.2, Bool.and_true, bl_len]
      congr 1
      rw [Bool.eq_iff_iff, beq_iff_eq, Bool.and_eq_true, decide_eq_true_eq, decide_eq_true_eq]
      omega
end Go.Proofs.YtgmdahmfmpdegaaDoor

namespace Go.Proofs.YtgmdahmfmpdegaaDoor
open Go.RowKit Go.Proofs.YtgmdahmfmpdegaaDoor.P Go.Proofs.YtgmdahmfmpdegaaDoorW.PrintWords
set_option linter.unusedSimpArgs false
set_option linter.unusedVariables false
set_option linter.unusedSectionVars false
/-! Walks without a digit twice. -/
namespace Once
def okN (l : List Int) : Prop := ∀ x ∈ l, 0 ≤ x ∧ x < 10
/-- How many digits a walk lacks. -/
def rem (now : List Int) : Nat := (List.range 10).countP fun (d : Nat) => decide (¬ ((d : Nat) : Int) ∈ now)
theorem countP_lt {α : Type} (p q : α → Bool) : ∀ (l : List α), (∀ a ∈ l, q a = true → p a = true) → (∃ a ∈ l, p a = true ∧ q a = false) → l.countP q + 1 ≤ l.countP p
  | [], _, h => by obtain ⟨a, ha, _⟩ := h; cases ha
  | a :: l, h, hx => by
    have hle : l.countP q ≤ l.countP p := List.countP_mono_left (fun b hb => h b (List.mem_cons_of_mem _ hb))
    rw [List.countP_cons, List.countP_cons]
    by_cases hpa : p a = true ∧ q a = false
    · rw [hpa.1, hpa.2]; simp; omega
    · obtain ⟨b, hb, hpb⟩ := hx
      have hb' : b ∈ l := by
        rcases List.mem_cons.1 hb with rfl | hb
        · exact absurd hpb hpa
        · exact hb
      have ih := countP_lt p q l (fun b hb => h b (List.mem_cons_of_mem _ hb)) ⟨b, hb', hpb⟩
      have := h a List.mem_cons_self
      cases hq : q a with
      | false => simp; omega
      | true => rw [this hq]; simp; omega
theorem rem_lt {now : List Int} {x : Int} (hx : 0 ≤ x ∧ x < 10) (hn : ¬ x ∈ now) : rem (now ++ [x]) + 1 ≤ rem now := by
  unfold rem
  refine countP_lt _ _ _ (fun a _ h => ?_) ⟨x.toNat, by rw [List.mem_range]; omega, ?_, ?_⟩
  · simp only [decide_eq_true_eq, List.mem_append] at h ⊢
    exact fun h' => h (.inl h')
  · rw [decide_eq_true_eq, Int.toNat_of_nonneg hx.1]; exact hn
  · rw [decide_eq_false_iff_not, Int.toNat_of_nonneg hx.1]; simp
theorem rem_le (now : List Int) : rem now ≤ 10 := by
  unfold rem
  have := List.countP_le_length (p := fun d : Nat => decide (¬ (d : Int) ∈ now)) (l := List.range 10)
  simpa using this
theorem okN_snoc {now : List Int} {x : Int} (h : okN now) (hx : 0 ≤ x ∧ x < 10) : okN (now ++ [x]) := by
  intro y hy
  rcases List.mem_append.1 hy with hy | hy
  · exact h y hy
  · rw [List.mem_singleton.1 hy]; exact hx
/-- The last digit. -/
def lst (now : List Int) : Int := now.getD (now.length - 1) 0
theorem lst_mem {now : List Int} (h : 0 < now.length) : lst now ∈ now := by
  unfold lst
  rw [List.getD_eq_getElem?_getD, List.getElem?_eq_getElem (by omega)]
  exact List.getElem_mem _
def nxt (T : List (List Int)) (now : List Int) : List Int := T.getD (lst now).toNat []
def sumX (f : List Int → Int) (now : List Int) : List Int → Int
  | [] => 0
  | x :: xs => (if x ∈ now then 0 else f (now ++ [x])) + sumX f now xs
def cS (T : List (List Int)) (long : Int) : Nat → List Int → Int
  | 0, _ => 0
  | d + 1, now => if (now.length : Int) = long then 1 else sumX (cS T long d) now (nxt T now)
def cI (T : List (List Int)) (long : Int) : Nat → List Int → Int
  | 0, _ => 0
  | d + 1, now => (if (now.length : Int) = long then 1 else 0) + sumX (cI T long d) now (nxt T now)
theorem sumX_congr {f g : List Int → Int} {now : List Int} (h : ∀ x, f (now ++ [x]) = g (now ++ [x])) : ∀ l, sumX f now l = sumX g now l
  | [] => rfl
  | x :: xs => by simp only [sumX, sumX_congr h xs, h x]
theorem sumX_zero {f : List Int → Int} {now : List Int} (h : ∀ x, f (now ++ [x]) = 0) : ∀ l, sumX f now l = 0
  | [] => rfl
  | x :: xs => by simp [sumX, sumX_zero h xs, h x]
theorem sumX_bd {f : List Int → Int} {now : List Int} {B : Int} (hB : 0 ≤ B) (h : ∀ x, 0 ≤ f (now ++ [x]) ∧ f (now ++ [x]) ≤ B) : ∀ l : List Int, 0 ≤ sumX f now l ∧ sumX f now l ≤ B * l.length
  | [] => by simp [sumX]
  | x :: xs => by
    have ih := sumX_bd hB h xs
    have hx := h x
    simp only [sumX, List.length_cons]
    have e : B * ((xs.length + 1 : Nat) : Int) = B * xs.length + B := by rw [Int.natCast_add, Int.mul_add]; simp
    rw [e]
    split <;> omega
theorem cI_big (T : List (List Int)) (long : Int) : ∀ (d : Nat) (now : List Int), long < (now.length : Int) → cI T long d now = 0
  | 0, _, _ => rfl
  | d + 1, now, h => by
    simp only [cI]
    rw [if_neg (by omega), sumX_zero (fun x => cI_big T long d (now ++ [x]) (by rw [List.length_append, List.length_singleton]; omega))]
    rfl
theorem cI_cS (T : List (List Int)) (long : Int) : ∀ (d : Nat) (now : List Int), (now.length : Int) ≤ long → cI T long d now = cS T long d now
  | 0, _, _ => rfl
  | d + 1, now, h => by
    simp only [cI, cS]
    by_cases c : (now.length : Int) = long
    · rw [if_pos c, if_pos c, sumX_zero (fun x => cI_big T long d (now ++ [x]) (by rw [List.length_append, List.length_singleton]; omega))]
      rfl
    · rw [if_neg c, if_neg c, sumX_congr (fun x => cI_cS T long d (now ++ [x]) (by rw [List.length_append, List.length_singleton]; omega))]
      omega
section
variable {T : List (List Int)} (hT : T.length = 10) (hT2 : ∀ l ∈ T, l.length ≤ 8 ∧ ∀ x ∈ l, 0 ≤ x ∧ x < 10)
include hT hT2
theorem nxt_ok {now : List Int} (h0 : 0 < now.length) (hn : okN now) : (nxt T now).length ≤ 8 ∧ okN (nxt T now) := by
  have hl := hn _ (lst_mem h0)
  unfold nxt
  rw [List.getD_eq_getElem?_getD, List.getElem?_eq_getElem (by omega)]
  exact hT2 _ (List.getElem_mem _)
theorem nxt_len (now : List Int) : (nxt T now).length ≤ 8 := by
  unfold nxt
  rw [List.getD_eq_getElem?_getD]
  cases h : T[(lst now).toNat]? with
  | none => simp
  | some l =>
    obtain ⟨hi, rfl⟩ := List.getElem?_eq_some_iff.1 h
    exact (hT2 _ (List.getElem_mem _)).1
theorem cI_bd (long : Int) : ∀ (d : Nat) (now : List Int), 0 ≤ cI T long d now ∧ cI T long d now ≤ 9 ^ d
  | 0, _ => by simp [cI]
  | d + 1, now => by
    have hB : (1 : Int) ≤ 9 ^ d := by
      have := Nat.one_le_pow d 9 (by omega)
      exact_mod_cast this
    have h := sumX_bd (f := cI T long d) (now := now) (B := 9 ^ d) (by omega) (fun x => cI_bd long d (now ++ [x])) (nxt T now)
    have h8 := nxt_len hT hT2 now
    simp only [cI]
    have e : (9 : Int) ^ (d + 1) = 9 ^ d * 9 := Int.pow_succ 9 d
    rw [e]
    generalize (9 : Int) ^ d = B at *
    generalize sumX (cI T long d) now (nxt T now) = s at *
    have h3 : B * ((nxt T now).length : Int) ≤ B * 8 := Int.mul_le_mul_of_nonneg_left (by omega) (by omega)
    generalize B * ((nxt T now).length : Int) = m at *
    split <;> omega
end
theorem has_l0 (now : List Int) (hn : okN now) (x : Int) (hx : 0 ≤ x ∧ x < 10) (hl : now.length ≤ 1000) : ∀ (e j : Nat), j + e = now.length → Ev (fun k => spec_wkHas.l0 k (digsOf now) (48 + x) (j : Int)) (decide (x ∈ now.drop j))
  | 0, j, h => by
    apply Ev.succ; simp only [spec_wkHas.l0]
    refine Ev.neg (by rw [digsOf_len]; omega) (Ev.const ?_)
    rw [List.drop_of_length_le (by omega)]; rfl
  | e + 1, j, h => by
    have hj : j < now.length := by omega
    have ih := has_l0 now hn x hx hl e (j + 1) (by omega)
    apply Ev.succ; simp only [spec_wkHas.l0]
    rw [digsOf_bt now hn j hj, wrap_id (n := (j : Int) + 1) (by omega) (by omega), List.drop_eq_getElem_cons hj]
    refine Ev.pos (by rw [digsOf_len]; omega) (Ev.pos (by omega) ?_)
    by_cases c : now[j] = x
    · refine Ev.pos (by rw [c]) (Ev.const ?_)
      rw [c]; simp
    · refine Ev.neg (by omega) ?_
      have e1 : decide (x ∈ now[j] :: now.drop (j + 1)) = decide (x ∈ now.drop (j + 1)) := by
        rw [decide_eq_decide, List.mem_cons]
        exact ⟨fun h => h.resolve_left (fun e => c e.symm), .inr⟩
      rw [e1]
      exact_mod_cast ih
theorem has_ev (now : List Int) (hn : okN now) (x : Int) (hx : 0 ≤ x ∧ x < 10) (hl : now.length ≤ 1000) : Ev (fun k => spec_wkHas.f k (digsOf now) (48 + x)) (decide (x ∈ now)) := by
  unfold spec_wkHas.f
  have := has_l0 now hn x hx hl now.length 0 (by omega)
  rw [List.drop_zero] at this
  exact_mod_cast this
theorem bl_digsOf (l : List Int) : bl (digsOf l) = l.map fun e => UInt8.ofNat (48 + e.toNat) := by show (List.toArray _).toList = _; simp
theorem digs_snoc (now row : List Int) (j : Nat) (hj : j < row.length) : digsOf now ++ (digsOf row).extract j (j + 1) = digsOf (now ++ [row[j]]) := by
  refine bl_inj ?_
  rw [bl_append, bl_extract, bl_digsOf, bl_digsOf, bl_digsOf, List.map_append]
  congr 1
  rw [← List.map_drop, ← List.map_take, List.drop_eq_getElem_cons hj, show j + 1 - j = 1 by omega]
  rfl
theorem digs_ext_size (row : List Int) (j : Nat) (hj : j < row.length) : ((digsOf row).extract j (j + 1)).size = 1 := by
  rw [bl_len, bl_extract, bl_digsOf, ← List.map_drop, ← List.map_take, List.length_map, List.length_take, List.length_drop]
  omega
theorem last_bt (now : List Int) (hn : okN now) (h0 : 0 < now.length) : bt (digsOf now) (((now.length - 1 : Nat)) : Int) = 48 + lst now := by
  rw [digsOf_bt now hn (now.length - 1) (by omega)]
  unfold lst
  rw [List.getD_eq_getElem?_getD, List.getElem?_eq_getElem (by omega)]
  rfl
end Once
end Go.Proofs.YtgmdahmfmpdegaaDoor

-- printed by xprint.py
namespace Go.Proofs.YtgmdahmfmpdegaaDoor.P
open Go.RowKit Go.Proofs.YtgmdahmfmpdegaaDoorW.PrintWords Go.Proofs.YtgmdahmfmpdegaaDoorW.PrintLast Go.Proofs.YtgmdahmfmpdegaaDoorW.PrintMore
attribute [local go_sem] max2_int min2_int max_two min_two max_three min_three max_four min_four   -- for this text's walks alone
set_option linter.unusedVariables false
set_option linter.unusedSimpArgs false

/-! ### spec_wkOnces: function 11 -/
mutual
def spec_wkOnces.l0 : Nat → ByteArray → ByteArray → Int → Int → ByteArray → Int → Option (Int)
 | 0, _, _, _, _, _, _ => none
 | k + 1, x0, x1, x2, x7, x8, x9 => if x9 < (x8.size : Int) then (if 0 ≤ x9 then ((spec_wkHas.f k x1 (bt x8 x9)).bind fun t102 => (if t102 = true then (spec_wkOnces.l0 k x0 x1 x2 x7 x8 (wrap64 (x9 + 1))) else (if x9 ≤ (wrap64 (x9 + 1)) then (if (wrap64 (x9 + 1)) ≤ (x8.size : Int) then (if x1.size + (x8.extract (x9 : Int).toNat ((wrap64 (x9 + 1)) : Int).toNat).size ≤ 9223372036854775807 then ((spec_wkOnces.f k x0 (x1 ++ (x8.extract (x9 : Int).toNat ((wrap64 (x9 + 1)) : Int).toNat)) x2).bind fun t103 => (spec_wkOnces.l0 k x0 x1 x2 (wrap64 (x7 + t103)) x8 (wrap64 (x9 + 1)))) else (none)) else (none)) else (none)))) else (none)) else (some x7)
def spec_wkOnces.f : Nat → ByteArray → ByteArray → Int → Option (Int)
 | 0, _, _, _ => none
 | k + 1, a0, a1, a2 => if (a1.size : Int) = a2 then (some 1) else (if 0 ≤ (wrap64 ((a1.size : Int) - 1)) then (if (wrap64 ((a1.size : Int) - 1)) < (a1.size : Int) then ((spec_wkNext.f k a0 (bt a1 (wrap64 ((a1.size : Int) - 1)))).bind fun t101 => (spec_wkOnces.l0 k a0 a1 a2 0 t101 0)) else (none)) else (none))
end
theorem spec_wkOnces.mono_l : ∀ k, (∀ y0 y1 y2, LeO (spec_wkOnces.f k y0 y1 y2) (spec_wkOnces.f (k + 1) y0 y1 y2)) ∧ (∀ y0 y1 y2 y3 y4 y5, LeO (spec_wkOnces.l0 k y0 y1 y2 y3 y4 y5) (spec_wkOnces.l0 (k + 1) y0 y1 y2 y3 y4 y5))
 | 0 => ⟨by intros; intro r h; simp [spec_wkOnces.f] at h, by intros; intro r h; simp [spec_wkOnces.l0] at h⟩
 | k + 1 => by
  obtain ⟨ih0, ih1⟩ := spec_wkOnces.mono_l k
  refine ⟨?_, ?_⟩
  ·
   intro y0 y1 y2
   unfold spec_wkOnces.f
   repeat' first
   | (with_reducible exact ih0 _ _ _)
   | (with_reducible exact ih1 _ _ _ _ _ _)
   | (with_reducible exact spec_wkHas.mono _ _ _)
   | (with_reducible exact spec_wkNext.mono _ _ _)
   | (with_reducible exact LeO.refl _)
   | (with_reducible exact LeO.none _)
   | (with_reducible refine LeO.ite ?_ ?_)
   | (with_reducible refine LeO.bind ?_ (fun _ => ?_))
   | exact ih0 _ _ _
   | exact ih1 _ _ _ _ _ _
   | exact spec_wkHas.mono _ _ _
   | exact spec_wkNext.mono _ _ _
   | exact LeO.none _
   | refine LeO.ite ?_ ?_
   | refine LeO.bind ?_ (fun _ => ?_)
  ·
   intro y0 y1 y2 y3 y4 y5
   unfold spec_wkOnces.l0
   repeat' first
   | (with_reducible exact ih0 _ _ _)
   | (with_reducible exact ih1 _ _ _ _ _ _)
   | (with_reducible exact spec_wkHas.mono _ _ _)
   | (with_reducible exact spec_wkNext.mono _ _ _)
   | (with_reducible exact LeO.refl _)
   | (with_reducible exact LeO.none _)
   | (with_reducible refine LeO.ite ?_ ?_)
   | (with_reducible refine LeO.bind ?_ (fun _ => ?_))
   | exact ih0 _ _ _
   | exact ih1 _ _ _ _ _ _
   | exact spec_wkHas.mono _ _ _
   | exact spec_wkNext.mono _ _ _
   | exact LeO.none _
   | refine LeO.ite ?_ ?_
   | refine LeO.bind ?_ (fun _ => ?_)
theorem spec_wkOnces.mono : ∀ y0 y1 y2 k, LeO (spec_wkOnces.f k y0 y1 y2) (spec_wkOnces.f (k + 1) y0 y1 y2) := by
 intro y0 y1 y2 k
 obtain ⟨ih0, ih1⟩ := spec_wkOnces.mono_l k
 exact ih0 y0 y1 y2
set_option maxHeartbeats 8000000 in
set_option maxRecDepth 100000 in
theorem spec_wkOnces.calls (k : Nat) : ∀ (a0 : ByteArray) (a1 : ByteArray) (a2 : Int) (r : Int) (w : World) (h : spec_wkOnces.f k a0 a1 a2 = some r),
  Calls Tryd.prog 11 #[.string a0, .string a1, .int .i64 a2] w fun e w' => e = .returned (.int .i64 r) ∧ Drawn0 w w' := by
 induction k using Nat.strongRecOn with
 | _ k ih =>
 intro a0 a1 a2 r w h
 cases k with
 | zero => exact absurd h (by simp [spec_wkOnces.f])
 | succ k =>
 simp only [spec_wkOnces.f] at h
 have H : (if (a1.size : Int) = a2 then (some 1) else (if 0 ≤ (wrap64 ((a1.size : Int) - 1)) then (if (wrap64 ((a1.size : Int) - 1)) < (a1.size : Int) then ((spec_wkNext.f k a0 (bt a1 (wrap64 ((a1.size : Int) - 1)))).bind fun t101 => (spec_wkOnces.l0 k a0 a1 a2 0 t101 0)) else (none)) else (none))) = some r := h
 clear h
 by_cases c4 : (a1.size : Int) = a2
 ·
  rw [if_pos c4] at H
  have c4b0 : ((a1.size : Int) == a2) = true := beq_iff_eq.mpr c4
  have c4b1 : ((a1.size : Int) != a2) = false := bne_eq_false_iff_eq.mpr c4
  clear c4
  obtain rfl := Option.some.inj H
  go_enter Tryd.func11, Tryd.ntmps11
  go_wp2
  go_ret
  exact ⟨by first | rfl | (simp; done) | (simp [*]; done), by repeat (first | exact Drawn0.refl _ | apply Drawn0.step)⟩
 ·
  rw [if_neg c4] at H
  have c4b0 : ((a1.size : Int) == a2) = false := beq_eq_false_iff_ne.mpr c4
  have c4b1 : ((a1.size : Int) != a2) = true := bne_iff_ne.mpr c4
  obtain ⟨ji5, hji5⟩ : ∃ j_ : Int, (wrap64 ((a1.size : Int) - 1)) = j_ := ⟨_, rfl⟩
  replace H : (if 0 ≤ (ji5) then (if (ji5) < (a1.size : Int) then ((spec_wkNext.f k a0 (bt a1 (ji5))).bind fun t101 => (spec_wkOnces.l0 k a0 a1 a2 0 t101 0)) else (none)) else (none)) = some r := by first | (rw [hji5] at H; exact H) | (simp only [hji5] at H ⊢; exact H)
  have hji5w : (IntKind.i64.wrap ((a1.size : Int) - 1)) = ji5 := (i64_w _).trans hji5
  by_cases c6 : 0 ≤ (ji5)
  ·
   rw [if_pos c6] at H
   have c6b0 : decide (0 ≤ (ji5)) = true := decide_eq_true c6
   clear c6
   by_cases c7 : (ji5) < (a1.size : Int)
   ·
    rw [if_pos c7] at H
    have c7b0 : decide ((ji5) < (a1.size : Int)) = true := decide_eq_true c7
    clear c7
    replace H := Option.bind_eq_some_iff.mp H
    obtain ⟨t101, A90, H⟩ := H
    replace H : (spec_wkOnces.l0 k a0 a1 a2 0 t101 0) = some r := H
    have A9 := Aside0.mk A90
    clear A90
    have H' := Aside0.mk H
    clear H
    have p8 : 0 ≤ ((ji5) : Int) := of_decide_eq_true (by first | (with_reducible assumption) | assumption)
    have q8 : (ji5) < (a1.size : Int) := of_decide_eq_true (by first | (with_reducible assumption) | assumption)
    have hx8 := bt_at a1 (ji5)
    replace p8 := eq_true p8
    replace q8 := eq_true q8
    go_enter Tryd.func11, Tryd.ntmps11
    go_wp2_with (first | ((with_reducible refine gate_callee (f := 24) rfl ?_); refine goesL_ (some 20) rfl rfl Tryd.func24 (by kernel_rfl) rfl #[.string a0, .int .u8 (bt a1 (ji5))] rfl (by (try simp only [List.map_toArray, List.map_cons, List.map_nil]); first | done | (simp only [hji5]; rfl) | rfl | (simp only [List.length_drop, List.length_take]; rfl)) ?_; (with_reducible refine (spec_wkNext.calls k a0 (bt a1 (ji5)) t101 _ A9.out).mono ?_); rintro e w' ⟨rfl, ⟨nd, rfl⟩⟩; refine ⟨_, rfl, ?_⟩))
    go_loopg [7, 9] k (fun kq v7 v9 w' => ∃ (x7_1 : Int) (x9_1 : Int), v7 = .int .i64 x7_1 ∧ v9 = .int .i64 x9_1 ∧ Aside0 (spec_wkOnces.l0 kq a0 a1 a2 x7_1 t101 x9_1 = some r) ∧ Aside0 (kq ≤ k) ∧ Drawn0 w w')
    case atStart => exact ⟨(0), (0), (by first | rfl | (simp; done) | (simp [*]; done)), (by first | rfl | (simp; done) | (simp [*]; done)), H', ⟨Nat.le_refl _⟩, by repeat (first | exact Drawn0.refl _ | apply Drawn0.step)⟩
    case round =>
     clear H'
     try clear c1
     try clear c2
     try clear p2
     try clear c4
     try clear c4b0
     try clear c4b1
     try clear c6
     try clear c6b0
     try clear p6
     try clear c7
     try clear c7b0
     try clear p8
     try clear q8
     try clear hx8
     try clear p8
     try clear q8
     obtain ⟨x7_1, x9_1, rfl, rfl, HA, HK1, ⟨m1, rfl⟩⟩ := hrel
     cases gk with
     | zero => exact absurd HA.out (by simp [spec_wkOnces.l0])
     | succ k1 =>
      have H := HA.out
      clear HA
      simp only [spec_wkOnces.l0] at H
      by_cases c10 : x9_1 < (t101.size : Int)
      ·
       rw [if_pos c10] at H
       have c10b0 : decide (x9_1 < (t101.size : Int)) = true := decide_eq_true c10
       clear c10
       by_cases c11 : 0 ≤ x9_1
       ·
        rw [if_pos c11] at H
        have c11b0 : decide (0 ≤ x9_1) = true := decide_eq_true c11
        clear c11
        replace H := Option.bind_eq_some_iff.mp H
        obtain ⟨t102, A130, H⟩ := H
        replace H : (if t102 = true then (spec_wkOnces.l0 k1 a0 a1 a2 x7_1 t101 (wrap64 (x9_1 + 1))) else (if x9_1 ≤ (wrap64 (x9_1 + 1)) then (if (wrap64 (x9_1 + 1)) ≤ (t101.size : Int) then (if a1.size + (t101.extract (x9_1 : Int).toNat ((wrap64 (x9_1 + 1)) : Int).toNat).size ≤ 9223372036854775807 then ((spec_wkOnces.f k1 a0 (a1 ++ (t101.extract (x9_1 : Int).toNat ((wrap64 (x9_1 + 1)) : Int).toNat)) a2).bind fun t103 => (spec_wkOnces.l0 k1 a0 a1 a2 (wrap64 (x7_1 + t103)) t101 (wrap64 (x9_1 + 1)))) else (none)) else (none)) else (none))) = some r := H
        have A13 := Aside0.mk A130
        clear A130
        by_cases c14 : t102 = true
        ·
         subst c14
         have H1 : (spec_wkOnces.l0 k1 a0 a1 a2 x7_1 t101 (wrap64 (x9_1 + 1))) = some r := by rw [if_pos rfl] at H; exact H
         clear H
         have H := H1
         clear H1
         have H' := Aside0.mk H
         clear H
         have p12 : 0 ≤ (x9_1 : Int) := of_decide_eq_true (by first | (with_reducible assumption) | assumption)
         have q12 : x9_1 < (t101.size : Int) := of_decide_eq_true (by first | (with_reducible assumption) | assumption)
         have hx12 := bt_at t101 x9_1
         replace p12 := eq_true p12
         replace q12 := eq_true q12
         go_wp2_with (first | ((with_reducible refine gate_callee (f := 25) rfl ?_); refine goesL_ (some 31) rfl rfl Tryd.func25 (by kernel_rfl) rfl #[.string a1, .int .u8 (bt t101 x9_1)] rfl (by (try simp only [List.map_toArray, List.map_cons, List.map_nil]); first | done | rfl | (simp only [List.length_drop, List.length_take]; rfl)) ?_; (with_reducible refine (spec_wkHas.calls k1 a1 (bt t101 x9_1) true _ A13.out).mono ?_); rintro e w' ⟨rfl, ⟨nd, rfl⟩⟩; refine ⟨_, rfl, ?_⟩))
         go_roundg k1
         case measure => have := HK1.out; omega
         case rel => exact ⟨(x7_1), (wrap64 (x9_1 + 1)), (by first | rfl | (simp; done) | (simp [*]; done)), (by first | rfl | (simp; done) | (simp [*]; done)), H', ⟨by have := HK1.out; omega⟩, by repeat (first | exact Drawn0.refl _ | apply Drawn0.step)⟩
        ·
         replace c14 := Bool.eq_false_iff.mpr c14
         subst c14
         have H1 : (if x9_1 ≤ (wrap64 (x9_1 + 1)) then (if (wrap64 (x9_1 + 1)) ≤ (t101.size : Int) then (if a1.size + (t101.extract (x9_1 : Int).toNat ((wrap64 (x9_1 + 1)) : Int).toNat).size ≤ 9223372036854775807 then ((spec_wkOnces.f k1 a0 (a1 ++ (t101.extract (x9_1 : Int).toNat ((wrap64 (x9_1 + 1)) : Int).toNat)) a2).bind fun t103 => (spec_wkOnces.l0 k1 a0 a1 a2 (wrap64 (x7_1 + t103)) t101 (wrap64 (x9_1 + 1)))) else (none)) else (none)) else (none)) = some r := by rw [if_neg (show ¬ (false = true) by decide)] at H; exact H
         clear H
         have H := H1
         clear H1
         have c15b0 := eq_true (of_decide_eq_true (by first | (with_reducible assumption) | assumption) : 0 ≤ x9_1)
         by_cases c16 : x9_1 ≤ (wrap64 (x9_1 + 1))
         ·
          rw [if_pos c16] at H
          have c16b0 := eq_true c16
          have c16b1 : decide (x9_1 ≤ (wrap64 (x9_1 + 1))) = true := decide_eq_true c16
          by_cases c17 : (wrap64 (x9_1 + 1)) ≤ (t101.size : Int)
          ·
           rw [if_pos c17] at H
           have c17b0 := eq_true c17
           have c17b1 : decide ((wrap64 (x9_1 + 1)) ≤ (t101.size : Int)) = true := decide_eq_true c17
           by_cases c18 : a1.size + (t101.extract (x9_1 : Int).toNat ((wrap64 (x9_1 + 1)) : Int).toNat).size ≤ 9223372036854775807
           ·
            rw [if_pos c18] at H
            have c18b0 := eq_true c18
            have c18b1 : decide (a1.size + (t101.extract (x9_1 : Int).toNat ((wrap64 (x9_1 + 1)) : Int).toNat).size ≤ 9223372036854775807) = true := decide_eq_true c18
            try have c18b2 : (9223372036854775807 < a1.size + (t101.extract (x9_1 : Int).toNat ((wrap64 (x9_1 + 1)) : Int).toNat).size) = False := eq_false (Nat.not_lt.2 c18)
            replace H := Option.bind_eq_some_iff.mp H
            obtain ⟨t103, A190, H⟩ := H
            replace H : (spec_wkOnces.l0 k1 a0 a1 a2 (wrap64 (x7_1 + t103)) t101 (wrap64 (x9_1 + 1))) = some r := H
            have A19 := Aside0.mk A190
            clear A190
            have H' := Aside0.mk H
            clear H
            have p12 : 0 ≤ (x9_1 : Int) := of_decide_eq_true (by first | (with_reducible assumption) | assumption)
            have q12 : x9_1 < (t101.size : Int) := of_decide_eq_true (by first | (with_reducible assumption) | assumption)
            have hx12 := bt_at t101 x9_1
            replace p12 := eq_true p12
            replace q12 := eq_true q12
            go_wp2_with (first | ((with_reducible refine gate_callee (f := 25) rfl ?_); refine goesL_ (some 31) rfl rfl Tryd.func25 (by kernel_rfl) rfl #[.string a1, .int .u8 (bt t101 x9_1)] rfl (by (try simp only [List.map_toArray, List.map_cons, List.map_nil]); first | done | rfl | (simp only [List.length_drop, List.length_take]; rfl)) ?_; (with_reducible refine (spec_wkHas.calls k1 a1 (bt t101 x9_1) false _ A13.out).mono ?_); rintro e w' ⟨rfl, ⟨nd, rfl⟩⟩; refine ⟨_, rfl, ?_⟩) | ((with_reducible refine gate_callee (f := 11) rfl ?_); refine goesL_ (some 43) rfl rfl Tryd.func11 (by kernel_rfl) rfl #[.string a0, .string (a1 ++ (t101.extract (x9_1 : Int).toNat ((wrap64 (x9_1 + 1)) : Int).toNat)), .int .i64 a2] rfl (by (try simp only [List.map_toArray, List.map_cons, List.map_nil]); first | done | rfl | (simp only [List.length_drop, List.length_take]; rfl)) ?_; (with_reducible refine (ih k1 (by have := HK1.out; omega) a0 (a1 ++ (t101.extract (x9_1 : Int).toNat ((wrap64 (x9_1 + 1)) : Int).toNat)) a2 t103 _ A19.out).mono ?_); rintro e w' ⟨rfl, ⟨nd, rfl⟩⟩; refine ⟨_, rfl, ?_⟩))
            go_roundg k1
            case measure => have := HK1.out; omega
            case rel => exact ⟨(wrap64 (x7_1 + t103)), (wrap64 (x9_1 + 1)), (by first | rfl | (simp; done) | (simp [*]; done)), (by first | rfl | (simp; done) | (simp [*]; done)), H', ⟨by have := HK1.out; omega⟩, by repeat (first | exact Drawn0.refl _ | apply Drawn0.step)⟩
           ·
            rw [if_neg c18] at H
            exact absurd H (by simp)
          ·
           rw [if_neg c17] at H
           exact absurd H (by simp)
         ·
          rw [if_neg c16] at H
          exact absurd H (by simp)
       ·
        rw [if_neg c11] at H
        exact absurd H (by simp)
      ·
       rw [if_neg c10] at H
       have c10b0 : decide (x9_1 < (t101.size : Int)) = false := decide_eq_false c10
       clear c10
       obtain rfl := Option.some.inj H
       go_wp2
       go_ret
       exact ⟨by first | rfl | (simp; done) | (simp only [← hji5] <;> (first | rfl | simp)) | (simp [*]; done), by repeat (first | exact Drawn0.refl _ | apply Drawn0.step)⟩
   ·
    rw [if_neg c7] at H
    exact absurd H (by simp)
  ·
   rw [if_neg c6] at H
   exact absurd H (by simp)

end Go.Proofs.YtgmdahmfmpdegaaDoor.P

-- printed by xprint.py
namespace Go.Proofs.YtgmdahmfmpdegaaDoor.P
open Go.RowKit Go.Proofs.YtgmdahmfmpdegaaDoorW.PrintWords Go.Proofs.YtgmdahmfmpdegaaDoorW.PrintLast Go.Proofs.YtgmdahmfmpdegaaDoorW.PrintMore
attribute [local go_sem] max2_int min2_int max_two min_two max_three min_three max_four min_four   -- for this text's walks alone
set_option linter.unusedVariables false
set_option linter.unusedSimpArgs false

/-! ### spec_CountOnce: function 5 -/
def spec_CountOnce.f (k : Nat) (a0 : ByteArray) (a1 : ByteArray) (a2 : Int) : Option (Int × Bool) := (spec_wkAsked.f k a0 a1).bind fun t101 => (if t101 = true then ((spec_l1In.f a2 1 10).bind fun t102 => (if t102 = true then ((spec_wkOnces.f k a0 a1 a2).bind fun t103 => (some (t103, true))) else (some (0, false)))) else (some (0, false)))
theorem spec_CountOnce.mono : ∀ y0 y1 y2 k, LeO (spec_CountOnce.f k y0 y1 y2) (spec_CountOnce.f (k + 1) y0 y1 y2) := by
 intro y0 y1 y2 k
 unfold spec_CountOnce.f
 repeat' first
   | (with_reducible exact spec_wkAsked.mono _ _ _)
   | (with_reducible exact spec_wkOnces.mono _ _ _ _)
   | (with_reducible exact LeO.refl _)
   | (with_reducible exact LeO.none _)
   | (with_reducible refine LeO.ite ?_ ?_)
   | (with_reducible refine LeO.bind ?_ (fun _ => ?_))
   | exact spec_wkAsked.mono _ _ _
   | exact spec_wkOnces.mono _ _ _ _
   | exact LeO.none _
   | refine LeO.ite ?_ ?_
   | refine LeO.bind ?_ (fun _ => ?_)
set_option maxHeartbeats 8000000 in
set_option maxRecDepth 100000 in
theorem spec_CountOnce.calls (k : Nat) (a0 : ByteArray) (a1 : ByteArray) (a2 : Int) (r1 : Int) (r2 : Bool) (w : World) (h : spec_CountOnce.f k a0 a1 a2 = some (r1, r2)) :
  Calls Tryd.prog 5 #[.string a0, .string a1, .int .i64 a2] w fun e w' => e = .returned (.tuple #[.int .i64 r1, .bool r2]) ∧ Drawn0 w w' := by
 have H : ((spec_wkAsked.f k a0 a1).bind fun t101 => (if t101 = true then ((spec_l1In.f a2 1 10).bind fun t102 => (if t102 = true then ((spec_wkOnces.f k a0 a1 a2).bind fun t103 => (some (t103, true))) else (some (0, false)))) else (some (0, false)))) = some (r1, r2) := h
 clear h
 replace H := Option.bind_eq_some_iff.mp H
 obtain ⟨t101, A40, H⟩ := H
 replace H : (if t101 = true then ((spec_l1In.f a2 1 10).bind fun t102 => (if t102 = true then ((spec_wkOnces.f k a0 a1 a2).bind fun t103 => (some (t103, true))) else (some (0, false)))) else (some (0, false))) = some (r1, r2) := H
 have A4 := Aside0.mk A40
 clear A40
 by_cases c5 : t101 = true
 ·
  subst c5
  have H1 : ((spec_l1In.f a2 1 10).bind fun t102 => (if t102 = true then ((spec_wkOnces.f k a0 a1 a2).bind fun t103 => (some (t103, true))) else (some (0, false)))) = some (r1, r2) := by rw [if_pos rfl] at H; exact H
  clear H
  have H := H1
  clear H1
  replace H := Option.bind_eq_some_iff.mp H
  obtain ⟨t102, A60, H⟩ := H
  replace H : (if t102 = true then ((spec_wkOnces.f k a0 a1 a2).bind fun t103 => (some (t103, true))) else (some (0, false))) = some (r1, r2) := H
  have A6 := Aside0.mk A60
  clear A60
  by_cases c7 : t102 = true
  ·
   subst c7
   have H1 : ((spec_wkOnces.f k a0 a1 a2).bind fun t103 => (some (t103, true))) = some (r1, r2) := by rw [if_pos rfl] at H; exact H
   clear H
   have H := H1
   clear H1
   replace H := Option.bind_eq_some_iff.mp H
   obtain ⟨t103, A80, H⟩ := H
   replace H : (some (t103, true)) = some (r1, r2) := H
   have A8 := Aside0.mk A80
   clear A80
   simp only [Option.some.injEq, Prod.mk.injEq] at H
   obtain ⟨rfl, rfl⟩ := H
   go_enter Tryd.func5, Tryd.ntmps5
   go_wp2_with (first | ((with_reducible refine gate_callee (f := 9) rfl ?_); refine goesL_ (some 10) rfl rfl Tryd.func9 (by kernel_rfl) rfl #[.string a0, .string a1] rfl (by (try simp only [List.map_toArray, List.map_cons, List.map_nil]); first | done | rfl | (simp only [List.length_drop, List.length_take]; rfl)) ?_; (with_reducible refine (spec_wkAsked.calls k a0 a1 true _ A4.out).mono ?_); rintro e w' ⟨rfl, ⟨nd, rfl⟩⟩; refine ⟨_, rfl, ?_⟩) | (go_at_call 10; (with_reducible refine (spec_l1In.calls a2 1 10 true _ A6.out).mono ?_); rintro e w' ⟨rfl, ⟨nd, rfl⟩⟩) | ((with_reducible refine gate_callee (f := 11) rfl ?_); refine goesL_ (some 20) rfl rfl Tryd.func11 (by kernel_rfl) rfl #[.string a0, .string a1, .int .i64 a2] rfl (by (try simp only [List.map_toArray, List.map_cons, List.map_nil]); first | done | rfl | (simp only [List.length_drop, List.length_take]; rfl)) ?_; (with_reducible refine (spec_wkOnces.calls k a0 a1 a2 t103 _ A8.out).mono ?_); rintro e w' ⟨rfl, ⟨nd, rfl⟩⟩; refine ⟨_, rfl, ?_⟩))
   go_ret2
   exact ⟨by first | rfl | (simp; done) | (simp [*]; done), by repeat (first | exact Drawn0.refl _ | apply Drawn0.step)⟩
  ·
   replace c7 := Bool.eq_false_iff.mpr c7
   subst c7
   have H1 : (some (0, false)) = some (r1, r2) := by rw [if_neg (show ¬ (false = true) by decide)] at H; exact H
   clear H
   have H := H1
   clear H1
   simp only [Option.some.injEq, Prod.mk.injEq] at H
   obtain ⟨rfl, rfl⟩ := H
   go_enter Tryd.func5, Tryd.ntmps5
   go_wp2_with (first | ((with_reducible refine gate_callee (f := 9) rfl ?_); refine goesL_ (some 10) rfl rfl Tryd.func9 (by kernel_rfl) rfl #[.string a0, .string a1] rfl (by (try simp only [List.map_toArray, List.map_cons, List.map_nil]); first | done | rfl | (simp only [List.length_drop, List.length_take]; rfl)) ?_; (with_reducible refine (spec_wkAsked.calls k a0 a1 true _ A4.out).mono ?_); rintro e w' ⟨rfl, ⟨nd, rfl⟩⟩; refine ⟨_, rfl, ?_⟩) | (go_at_call 10; (with_reducible refine (spec_l1In.calls a2 1 10 false _ A6.out).mono ?_); rintro e w' ⟨rfl, ⟨nd, rfl⟩⟩))
   go_ret2
   exact ⟨by first | rfl | (simp; done) | (simp [*]; done), by repeat (first | exact Drawn0.refl _ | apply Drawn0.step)⟩
 ·
  replace c5 := Bool.eq_false_iff.mpr c5
  subst c5
  have H1 : (some (0, false)) = some (r1, r2) := by rw [if_neg (show ¬ (false = true) by decide)] at H; exact H
  clear H
  have H := H1
  clear H1
  simp only [Option.some.injEq, Prod.mk.injEq] at H
  obtain ⟨rfl, rfl⟩ := H
  go_enter Tryd.func5, Tryd.ntmps5
  go_wp2_with (first | ((with_reducible refine gate_callee (f := 9) rfl ?_); refine goesL_ (some 10) rfl rfl Tryd.func9 (by kernel_rfl) rfl #[.string a0, .string a1] rfl (by (try simp only [List.map_toArray, List.map_cons, List.map_nil]); first | done | rfl | (simp only [List.length_drop, List.length_take]; rfl)) ?_; (with_reducible refine (spec_wkAsked.calls k a0 a1 false _ A4.out).mono ?_); rintro e w' ⟨rfl, ⟨nd, rfl⟩⟩; refine ⟨_, rfl, ?_⟩))
  go_ret2
  exact ⟨by first | rfl | (simp; done) | (simp [*]; done), by repeat (first | exact Drawn0.refl _ | apply Drawn0.step)⟩

end Go.Proofs.YtgmdahmfmpdegaaDoor.P

namespace Go.Proofs.YtgmdahmfmpdegaaDoor
open Go.RowKit Go.Proofs.YtgmdahmfmpdegaaDoor.P Go.Proofs.YtgmdahmfmpdegaaDoorW.PrintWords
set_option linter.unusedSimpArgs false
set_option linter.unusedVariables false
set_option linter.unusedSectionVars false
namespace Once
theorem lastI_eq (now : List Int) (h0 : 0 < now.length) (h1 : now.length ≤ 1000) : lastI now = lst now := by
  unfold lastI lst rd
  rw [wrap_id (by omega) (by omega), show ((now.length : Int) - 1).toNat = now.length - 1 by omega]
section
variable {α : Type} (next : α → List Int → α) (T : List (List Int)) (now : List Int) (hl : now.length ≤ 1000)
include hl
/-- The loop of the digits next: an answer for each walk that goes on. -/
theorem loop_ev (Fn : α → List Int → α) : ∀ (row : List Int) (σ : α), (∀ x ∈ row, ¬ x ∈ now → ∀ σ, Ev (fun k => oncesF next k T (now ++ [x]) σ) (Fn σ (now ++ [x]))) →
    Ev (fun k => loopO k (fun p s => oncesF next k T p s) now row σ) (row.foldl (fun s x => if x ∈ now then s else Fn s (now ++ [x])) σ)
  | [], σ, _ => by simp only [loopO, List.foldl_nil]; exact Ev.now _
  | x :: xs, σ, h => by
    simp only [loopO, List.foldl_cons]
    refine Ev.bind (contains_ev now x (by omega)) ?_
    by_cases c : x ∈ now
    · rw [if_pos c]
      exact Ev.pos (by simp [c]) (loop_ev Fn xs σ (fun y hy => h y (List.mem_cons_of_mem _ hy)))
    · rw [if_neg c]
      exact Ev.neg (by simp [c]) (Ev.bind (h x List.mem_cons_self c σ) (loop_ev Fn xs _ (fun y hy => h y (List.mem_cons_of_mem _ hy))))
end
/-- All walks that go on from one, in order: what a closure makes of them. -/
def walkF {α : Type} (next : α → List Int → α) (T : List (List Int)) : Nat → α → List Int → α
  | 0, σ, _ => σ
  | d + 1, σ, now => (nxt T now).foldl (fun s x => if x ∈ now then s else walkF next T d s (now ++ [x])) (next σ now)
theorem onces_ev {α : Type} (next : α → List Int → α) {T : List (List Int)} (hT : T.length = 10) (hT2 : ∀ l ∈ T, l.length ≤ 8 ∧ ∀ x ∈ l, 0 ≤ x ∧ x < 10) : ∀ (d : Nat) (now : List Int), rem now < d → now.length + rem now ≤ 10 → 0 < now.length → okN now → ∀ σ, Ev (fun k => oncesF next k T now σ) (walkF next T d σ now)
  | 0, now, h, _, _, _ => by omega
  | d + 1, now, h, h1, h0, hn => by
    intro σ
    have hm := hn _ (lst_mem h0)
    have hx := nxt_ok hT hT2 h0 hn
    apply Ev.succ; simp only [oncesF, walkF]
    rw [lastI_eq now h0 (by omega)]
    refine Ev.pos ⟨h0, by omega, hm.1, by omega⟩ ?_
    refine loop_ev next T now (by omega) (walkF next T d) (nxt T now) _ (fun x hx1 hx2 s => ?_)
    have h9 := hx.2 x hx1
    have hr := rem_lt h9 hx2
    exact onces_ev next hT hT2 d (now ++ [x]) (by omega) (by rw [List.length_append, List.length_singleton]; omega) (by rw [List.length_append, List.length_singleton]; omega) (okN_snoc hn h9) s
/-! The count. -/
section
variable {T : List (List Int)} (hT : T.length = 10) (hT2 : ∀ l ∈ T, l.length ≤ 8 ∧ ∀ x ∈ l, 0 ≤ x ∧ x < 10) (long : Int)
include hT hT2
theorem fold_cnt (d : Nat) (hd : d ≤ 10) (now : List Int) (F : Int → List Int → Int) (hF : ∀ (n : Int) (x : Int), 0 ≤ n → n + 9 ^ d ≤ 9000000000000000 → F n (now ++ [x]) = n + cI T long d (now ++ [x])) : ∀ (row : List Int) (n : Int), 0 ≤ n → n + 9 ^ d * row.length ≤ 9000000000000000 → row.foldl (fun s x => if x ∈ now then s else F s (now ++ [x])) n = n + sumX (cI T long d) now row
  | [], n, h0, h1 => by simp [sumX]
  | x :: xs, n, h0, h1 => by
    have hb := cI_bd hT hT2 long d (now ++ [x])
    have hp : (0 : Int) ≤ 9 ^ d := by omega
    rw [List.length_cons, show (9 : Int) ^ d * ((xs.length + 1 : Nat) : Int) = 9 ^ d * xs.length + 9 ^ d by rw [Int.natCast_add, Int.mul_add]; simp] at h1
    have hq : (0 : Int) ≤ 9 ^ d * xs.length := Int.mul_nonneg hp (by omega)
    simp only [List.foldl_cons, sumX]
    by_cases c : x ∈ now
    · rw [if_pos c, if_pos c, fold_cnt d hd now F hF xs n h0 (by omega)]; omega
    · rw [if_neg c, if_neg c, hF n x h0 (by omega), fold_cnt d hd now F hF xs _ (by omega) (by omega)]; omega
end
section
variable {p : ByteArray} (hp : isPc p) (long : Int)
include hp
theorem walk_cnt : ∀ (d : Nat), d ≤ 10 → ∀ (now : List Int) (n : Int), 0 ≤ n → n + 9 ^ d ≤ 9000000000000000 → walkF (onceNext long) (tbl p) d n now = n + cI (tbl p) long d now
  | 0, _, now, n, h0, h1 => by simp [walkF, cI]
  | d + 1, hd, now, n, h0, h1 => by
    have hT := tbl_shape hp
    have ih := walk_cnt d (by omega)
    have h8 := nxt_len hT.1 hT.2 now
    have hB : (1 : Int) ≤ 9 ^ d := by
      have := Nat.one_le_pow d 9 (by omega)
      exact_mod_cast this
    rw [show (9 : Int) ^ (d + 1) = 9 ^ d * 9 from Int.pow_succ 9 d] at h1
    have hm : (9 : Int) ^ d * ((nxt (tbl p) now).length : Int) ≤ 9 ^ d * 8 := Int.mul_le_mul_of_nonneg_left (by omega) (by omega)
    have hf := fun n' h => fold_cnt hT.1 hT.2 long d (by omega) now (walkF (onceNext long) (tbl p) d) (fun n x h2 h3 => ih (now ++ [x]) n h2 h3) (nxt (tbl p) now) n' h
    simp only [walkF, cI]
    unfold onceNext at hf ⊢
    by_cases c : (now.length : Int) = long
    · rw [if_pos c, if_pos c, wrap_id (by omega) (by omega), hf (n + 1) (by omega) (by omega)]; omega
    · rw [if_neg c, if_neg c, hf n (by omega) (by omega)]; omega
theorem spec_l0 (d : Nat) (now : List Int) (hn : okN now) (h1 : now.length + rem now ≤ 10) (row : List Int) (hr : okN row) (h8 : row.length ≤ 8)
    (ih : ∀ x ∈ row, ¬ x ∈ now → Ev (fun k => spec_wkOnces.f k p (digsOf (now ++ [x])) long) (cS (tbl p) long d (now ++ [x])))
    (hb : ∀ x, 0 ≤ cS (tbl p) long d (now ++ [x]) ∧ cS (tbl p) long d (now ++ [x]) ≤ 4000000000000) : ∀ (e j : Nat) (acc : Int), j + e = row.length → 0 ≤ acc → acc ≤ 4000000000000 * j →
    Ev (fun k => spec_wkOnces.l0 k p (digsOf now) long acc (digsOf row) (j : Int)) (acc + sumX (cS (tbl p) long d) now (row.drop j))
  | 0, j, acc, h, _, _ => by
    apply Ev.succ; simp only [spec_wkOnces.l0]
    refine Ev.neg (by rw [digsOf_len]; omega) (Ev.const ?_)
    rw [List.drop_of_length_le (by omega)]
    simp [sumX]
  | e + 1, j, acc, h, ha, hA => by
    have hj : j < row.length := by omega
    have hx := hr _ (List.getElem_mem hj)
    have hbx := hb row[j]
    have e2 : wrap64 ((j : Int) + 1) = ((j + 1 : Nat) : Int) := by rw [wrap_id (by omega) (by omega)]; omega
    apply Ev.succ; simp only [spec_wkOnces.l0]
    rw [digsOf_bt row hr j hj, e2, List.drop_eq_getElem_cons hj, Int.toNat_natCast, Int.toNat_natCast, digs_snoc now row j hj, digs_ext_size row j hj, digsOf_len, digsOf_len]
    simp only [sumX]
    refine Ev.pos (by omega) (Ev.pos (by omega) (Ev.bind (has_ev now hn row[j] hx (by omega)) ?_))
    by_cases c : row[j] ∈ now
    · rw [if_pos c]
      have := spec_l0 d now hn h1 row hr h8 ih hb e (j + 1) acc (by omega) ha (by omega)
      rw [Int.zero_add]
      exact Ev.pos (by simp [c]) this
    · rw [if_neg c]
      have := spec_l0 d now hn h1 row hr h8 ih hb e (j + 1) (acc + cS (tbl p) long d (now ++ [row[j]])) (by omega) (by omega) (by omega)
      rw [← Int.add_assoc]
      refine Ev.neg (by simp [c]) (Ev.pos (by omega) (Ev.pos (by omega) (Ev.pos (by omega) (Ev.bind (ih _ (List.getElem_mem hj) c) ?_))))
      rw [wrap_id (n := acc + cS (tbl p) long d (now ++ [row[j]])) (by omega) (by omega)]
      exact this
theorem spec_ev : ∀ (d : Nat), d ≤ 10 → ∀ (now : List Int), rem now < d → now.length + rem now ≤ 10 → 0 < now.length → (now.length : Int) ≤ long → okN now → Ev (fun k => spec_wkOnces.f k p (digsOf now) long) (cS (tbl p) long d now)
  | 0, _, now, h, _, _, _, _ => by omega
  | d + 1, hd, now, h, h1, h0, hlong, hn => by
    have hT := tbl_shape hp
    have hm := hn _ (lst_mem h0)
    have hx := nxt_ok hT.1 hT.2 h0 hn
    apply Ev.succ; simp only [spec_wkOnces.f, cS]
    rw [digsOf_len]
    by_cases c : (now.length : Int) = long
    · rw [if_pos c]
      exact Ev.pos c (Ev.now _)
    · rw [if_neg c]
      have e1 : wrap64 ((now.length : Int) - 1) = ((now.length - 1 : Nat) : Int) := by rw [wrap_id (by omega) (by omega)]; omega
      rw [e1, last_bt now hn h0]
      have hk := wkNext_ev hp (lst now).toNat (by omega)
      rw [show (48 : Int) + ((lst now).toNat : Int) = 48 + lst now by omega] at hk
      refine Ev.neg c (Ev.pos (by omega) (Ev.pos (by omega) (Ev.bind hk ?_)))
      have hl := spec_l0 hp long d now hn h1 (nxt (tbl p) now) hx.2 hx.1 (fun x hx1 hx2 => by
        have h9 := hx.2 x hx1
        have hr := rem_lt h9 hx2
        exact spec_ev d (by omega) (now ++ [x]) (by omega) (by rw [List.length_append, List.length_singleton]; omega) (by rw [List.length_append, List.length_singleton]; omega) (by rw [List.length_append, List.length_singleton]; omega) (okN_snoc hn h9)) (fun x => by
        have hb := cI_bd hT.1 hT.2 long d (now ++ [x])
        rw [cI_cS _ _ _ _ (by rw [List.length_append, List.length_singleton]; omega)] at hb
        have h9 : (9 : Int) ^ d ≤ 9 ^ 10 := by
          have := Nat.pow_le_pow_right (n := 9) (by omega) (show d ≤ 10 by omega)
          exact_mod_cast this
        have h10 : (9 : Int) ^ 10 = 3486784401 := by decide
        omega) (nxt (tbl p) now).length 0 0 (by omega) (by omega) (by omega)
      rw [Int.zero_add, List.drop_zero] at hl
      exact_mod_cast hl
end
end Once
end Go.Proofs.YtgmdahmfmpdegaaDoor

namespace Go.Proofs.YtgmdahmfmpdegaaDoor
open Go.RowKit Go.Proofs.YtgmdahmfmpdegaaDoor.P Go.Proofs.YtgmdahmfmpdegaaDoorW.PrintWords
set_option linter.unusedSimpArgs false
set_option linter.unusedVariables false
theorem digitSign : ∀ d : Fin 10, bt (⟨#[48, 49, 50, 51, 52, 53, 54, 55, 56, 57]⟩ : ByteArray) (d.val : Int) = 48 + (d.val : Int) := by decide +kernel
theorem digitText_l0 (l : List Int) (hl : l.length ≤ 1000000) (hd : ∀ x ∈ l, 0 ≤ x ∧ x < 10) : ∀ (d i : Nat) (out : List Int), i + d = l.length → out.length + d ≤ 2000000 →
    Ev (fun k => impl_digitText.l0 k out l (l.length : Int) i) (strOfNums (out ++ (l.drop i).map (48 + ·)))
  | 0, i, out, hi, ho => by
    apply Ev.succ; simp only [impl_digitText.l0]
    refine Ev.neg (by omega) (Ev.const ?_)
    rw [List.drop_of_length_le (by omega)]; simp
  | d + 1, i, out, hi, ho => by
    have hlt : i < l.length := by omega
    have hb := hd _ (List.getElem_mem hlt)
    apply Ev.succ; simp only [impl_digitText.l0]
    rw [rd_nat l i hlt, wrap_id (by omega) (by omega)]
    refine Ev.yes (Ev.yes (Ev.yes (Ev.yes (Ev.yes (Ev.yes ?_)))))
    obtain ⟨n, hn⟩ := Int.eq_ofNat_of_zero_le hb.1
    have e := digitSign ⟨n, by omega⟩
    rw [List.drop_eq_getElem_cons hlt, List.map_cons, hn]
    simp only at e
    rw [e]
    have := digitText_l0 l hl hd d (i + 1) (out ++ [48 + (n : Int)]) (by omega) (by simp; omega)
    rw [List.append_assoc] at this
    exact_mod_cast this
theorem digitText_ev (l : List Int) (hl : l.length ≤ 1000000) (hd : ∀ x ∈ l, 0 ≤ x ∧ x < 10) : Ev (fun k => impl_digitText.f k l) (strOfNums (l.map (48 + ·))) := by
  unfold impl_digitText.f
  have := digitText_l0 l hl hd l.length 0 [] (by omega) (by simp; omega)
  simpa using this
end Go.Proofs.YtgmdahmfmpdegaaDoor

namespace Go.Proofs.YtgmdahmfmpdegaaDoor
open Go.RowKit Go.Proofs.YtgmdahmfmpdegaaDoor.P Go.Proofs.YtgmdahmfmpdegaaDoorW.PrintWords
set_option linter.unusedSimpArgs false
set_option linter.unusedVariables false
set_option linter.unusedSectionVars false
namespace Once
theorem long_assoc (a b c : List Int) : longNext (longNext a b) c = longNext a (longNext b c) := by
  unfold longNext
  by_cases h1 : a.length < b.length <;> by_cases h2 : b.length < c.length <;> by_cases h3 : a.length < c.length <;> simp only [h1, h2, h3, if_true, if_false] <;> (first | rfl | (exfalso; omega))
/-- The first longest walk that goes on from one. -/
def cW (T : List (List Int)) : Nat → List Int → List Int
  | 0, _ => []
  | d + 1, now => (nxt T now).foldl (fun s x => if x ∈ now then s else longNext s (cW T d (now ++ [x]))) now
theorem fold_assoc (g : Int → List Int) (now : List Int) : ∀ (row : List Int) (a b : List Int), row.foldl (fun s x => if x ∈ now then s else longNext s (g x)) (longNext a b) = longNext a (row.foldl (fun s x => if x ∈ now then s else longNext s (g x)) b)
  | [], a, b => rfl
  | x :: xs, a, b => by
    simp only [List.foldl_cons]
    by_cases c : x ∈ now
    · rw [if_pos c, if_pos c]; exact fold_assoc g now xs a b
    · rw [if_neg c, if_neg c, long_assoc]; exact fold_assoc g now xs a (longNext b (g x))
theorem walk_long (T : List (List Int)) : ∀ (d : Nat) (now best : List Int), walkF longNext T d best now = longNext best (cW T d now)
  | 0, now, best => by unfold longNext; simp [walkF, cW]
  | d + 1, now, best => by
    simp only [walkF, cW]
    have ih : (fun s x => if x ∈ now then s else walkF longNext T d s (now ++ [x])) = fun s x => if x ∈ now then s else longNext s (cW T d (now ++ [x])) := by
      funext s x
      rw [walk_long T d (now ++ [x]) s]
    rw [ih, fold_assoc (fun x => cW T d (now ++ [x])) now (nxt T now) best now]
theorem long_ok {a b : List Int} (ha : okN a) (hb : okN b) : okN (longNext a b) := by
  unfold longNext; split
  · exact hb
  · exact ha
theorem long_len {a b : List Int} {n : Nat} (ha : a.length ≤ n) (hb : b.length ≤ n) : (longNext a b).length ≤ n := by
  unfold longNext; split
  · exact hb
  · exact ha
section
variable {T : List (List Int)} (hT : T.length = 10) (hT2 : ∀ l ∈ T, l.length ≤ 8 ∧ ∀ x ∈ l, 0 ≤ x ∧ x < 10)
include hT hT2
theorem cW_ok : ∀ (d : Nat) (now : List Int), 0 < now.length → okN now → now.length + d ≤ 1000 → okN (cW T d now) ∧ (cW T d now).length ≤ 1000
  | 0, now, _, _, _ => ⟨fun x hx => (by simp [cW] at hx), by simp [cW]⟩
  | d + 1, now, h0, hn, hl => by
    have hx := (nxt_ok hT hT2 h0 hn).2
    simp only [cW]
    have go : ∀ (row : List Int) (b : List Int), okN row → okN b → b.length ≤ 1000 → okN (row.foldl (fun s x => if x ∈ now then s else longNext s (cW T d (now ++ [x]))) b) ∧ (row.foldl (fun s x => if x ∈ now then s else longNext s (cW T d (now ++ [x]))) b).length ≤ 1000 := by
      intro row
      induction row with
      | nil => intro b _ h1 h2; exact ⟨h1, h2⟩
      | cons x xs ih =>
        intro b hr h1 h2
        have hr' : okN xs := fun y hy => hr y (List.mem_cons_of_mem _ hy)
        simp only [List.foldl_cons]
        by_cases c : x ∈ now
        · rw [if_pos c]; exact ih b hr' h1 h2
        · rw [if_neg c]
          have hc := cW_ok d (now ++ [x]) (by rw [List.length_append, List.length_singleton]; omega) (okN_snoc hn (hr x List.mem_cons_self)) (by rw [List.length_append, List.length_singleton]; omega)
          exact ih _ hr' (long_ok h1 hc.1) (long_len h2 hc.2)
    exact go _ now hx hn (by omega)
end
section
variable {p : ByteArray} (hp : isPc p)
include hp
theorem once_l0 (d : Nat) (now : List Int) (hn : okN now) (h1 : now.length ≤ 10) (row : List Int) (hr : okN row) (h8 : row.length ≤ 8)
    (ih : ∀ x ∈ row, ¬ x ∈ now → Ev (fun k => spec_wkOnce.f k p (digsOf (now ++ [x]))) (digsOf (cW (tbl p) d (now ++ [x])))) : ∀ (e j : Nat) (best : List Int), j + e = row.length →
    Ev (fun k => spec_wkOnce.l0 k p (digsOf now) (digsOf best) (digsOf row) (j : Int)) (digsOf ((row.drop j).foldl (fun s x => if x ∈ now then s else longNext s (cW (tbl p) d (now ++ [x]))) best))
  | 0, j, best, h => by
    apply Ev.succ; simp only [spec_wkOnce.l0]
    refine Ev.neg (by rw [digsOf_len]; omega) (Ev.const ?_)
    rw [List.drop_of_length_le (by omega)]
    rfl
  | e + 1, j, best, h => by
    have hj : j < row.length := by omega
    have hx := hr _ (List.getElem_mem hj)
    have e2 : wrap64 ((j : Int) + 1) = ((j + 1 : Nat) : Int) := by rw [wrap_id (by omega) (by omega)]; omega
    apply Ev.succ; simp only [spec_wkOnce.l0]
    rw [digsOf_bt row hr j hj, e2, List.drop_eq_getElem_cons hj, Int.toNat_natCast, Int.toNat_natCast, digs_snoc now row j hj, digs_ext_size row j hj, digsOf_len, digsOf_len, digsOf_len]
    simp only [List.foldl_cons]
    refine Ev.pos (by omega) (Ev.pos (by omega) (Ev.bind (has_ev now hn row[j] hx (by omega)) ?_))
    by_cases c : row[j] ∈ now
    · rw [if_pos c]
      exact Ev.pos (by simp [c]) (once_l0 d now hn h1 row hr h8 ih e (j + 1) best (by omega))
    · rw [if_neg c]
      refine Ev.neg (by simp [c]) (Ev.pos (by omega) (Ev.pos (by omega) (Ev.pos (by omega) (Ev.bind (ih _ (List.getElem_mem hj) c) ?_))))
      rw [digsOf_len]
      by_cases cl : best.length < (cW (tbl p) d (now ++ [row[j]])).length
      · rw [show longNext best (cW (tbl p) d (now ++ [row[j]])) = cW (tbl p) d (now ++ [row[j]]) from if_pos cl]
        exact Ev.pos (by omega) (once_l0 d now hn h1 row hr h8 ih e (j + 1) _ (by omega))
      · rw [show longNext best (cW (tbl p) d (now ++ [row[j]])) = best from if_neg cl]
        exact Ev.neg (by omega) (once_l0 d now hn h1 row hr h8 ih e (j + 1) _ (by omega))
theorem once_ev : ∀ (d : Nat) (now : List Int), rem now < d → now.length + rem now ≤ 10 → 0 < now.length → okN now → Ev (fun k => spec_wkOnce.f k p (digsOf now)) (digsOf (cW (tbl p) d now))
  | 0, now, h, _, _, _ => by omega
  | d + 1, now, h, h1, h0, hn => by
    have hT := tbl_shape hp
    have hm := hn _ (lst_mem h0)
    have hx := nxt_ok hT.1 hT.2 h0 hn
    apply Ev.succ; simp only [spec_wkOnce.f, cW]
    rw [digsOf_len]
    have e1 : wrap64 ((now.length : Int) - 1) = ((now.length - 1 : Nat) : Int) := by rw [wrap_id (by omega) (by omega)]; omega
    rw [e1, last_bt now hn h0]
    have hk := wkNext_ev hp (lst now).toNat (by omega)
    rw [show (48 : Int) + ((lst now).toNat : Int) = 48 + lst now by omega] at hk
    refine Ev.pos (by omega) (Ev.pos (by omega) (Ev.bind hk ?_))
    have hl := once_l0 hp d now hn (by omega) (nxt (tbl p) now) hx.2 hx.1 (fun x hx1 hx2 => by
      have h9 := hx.2 x hx1
      have hr := rem_lt h9 hx2
      exact once_ev d (now ++ [x]) (by omega) (by rw [List.length_append, List.length_singleton]; omega) (by rw [List.length_append, List.length_singleton]; omega) (okN_snoc hn h9)) (nxt (tbl p) now).length 0 now (by omega)
    rw [List.drop_zero] at hl
    exact_mod_cast hl
end
theorem digs_nums (l : List Int) (h : okN l) : strOfNums (l.map (48 + ·)) = digsOf l := by
  refine bl_inj ?_
  rw [bl_nums, bl_digsOf, List.map_map]
  refine List.map_congr_left (fun x hx => ?_)
  have := h x hx
  show UInt8.ofNat (48 + x).toNat = _
  rw [show (48 + x).toNat = 48 + x.toNat by omega]
end Once
end Go.Proofs.YtgmdahmfmpdegaaDoor

/- FnExactLongestOnce: both sides find the same walk: over the functions that the walk computes. -/
namespace Go.Proofs.YtgmdahmfmpdegaaDoor
open Go.RowKit Go.Proofs.YtgmdahmfmpdegaaDoor.P Go.Proofs.YtgmdahmfmpdegaaDoorW.PrintWords
set_option linter.unusedSimpArgs false
set_option linter.unusedVariables false
open Once in
theorem long_both {a : ByteArray} (hp : isPc a) {s : ByteArray} (hs : digsB (bl s) 1 1 = true) : ∃ (d : Int) (q : List Int), 0 < s.size ∧ impl_digit.f (bt s 0) = some d ∧ Ev (fun k => oncesF longNext k (tbl a) [d] []) q ∧ Ev (fun k => impl_digitText.f k q) (digsOf q) ∧ Ev (fun k => spec_wkOnce.f k a s) (digsOf q) := by
  obtain ⟨e, he, rfl⟩ := digit_of hs
  have hT := tbl_shape hp
  have hn : okN [(e : Int)] := by
    intro x hx
    rw [List.mem_singleton.1 hx]; omega
  have hr : rem [(e : Int)] + 1 ≤ 10 := by
    have := rem_lt (now := []) (x := (e : Int)) (by omega) (by simp)
    have h10 := rem_le []
    rw [List.nil_append] at this
    omega
  have hs0 : (⟨#[UInt8.ofNat (48 + e)]⟩ : ByteArray) = digsOf [(e : Int)] := bl_inj (by rw [bl_digsOf]; simp [bl])
  have hb : bt (⟨#[UInt8.ofNat (48 + e)]⟩ : ByteArray) 0 = 48 + (e : Int) := by
    rw [hs0]
    exact digsOf_bt [(e : Int)] hn 0 (by simp)
  have i1 := onces_ev longNext hT.1 hT.2 10 [(e : Int)] (by omega) (by simp; omega) (by simp) hn []
  rw [walk_long] at i1
  have hc := cW_ok hT.1 hT.2 10 [(e : Int)] (by simp) hn (by simp)
  have e0 : longNext [] (cW (tbl a) 10 [(e : Int)]) = cW (tbl a) 10 [(e : Int)] := by
    unfold longNext
    split
    · rfl
    · rename_i h
      have : (cW (tbl a) 10 [(e : Int)]).length = 0 := by simp at h; simp [h]
      exact (List.eq_nil_of_length_eq_zero this).symm
  rw [e0] at i1
  have i2 := once_ev hp 10 [(e : Int)] (by omega) (by simp; omega) (by simp) hn
  rw [← hs0] at i2
  have i3 := digitText_ev (cW (tbl a) 10 [(e : Int)]) (by omega) hc.1
  rw [digs_nums _ hc.1] at i3
  refine ⟨(e : Int), _, by show 0 < 1; omega, ?_, i1, i3, i2⟩
  unfold impl_digit.f
  rw [hb]
  congr 1
  omega
theorem pure_FnExactLongestOnce : PureFnExactLongestOnce := by
  intro a s h0 h1
  refine Ev.rounds (g := fun k => laws_FnExactLongestOnce.f k a s) ?_
  unfold laws_FnExactLongestOnce.f
  rcases Nat.lt_or_ge 1048576 a.size with c0 | c0
  · exact Ev.pos (by omega) (Ev.now _)
  refine Ev.neg (by omega) ?_
  rcases Nat.lt_or_ge 1048576 s.size with c1 | c1
  · exact Ev.pos (by omega) (Ev.now _)
  refine Ev.neg (by omega) ?_
  have same : ∀ r : ByteArray × Bool, Ev (fun k => spec_LongestOnce.f k a s) r → Ev (fun k => impl_LongestOnce.f k a s) r → Ev (fun k => (spec_LongestOnce.f k a s).bind fun bt101 => ((impl_LongestOnce.f k a s).bind fun bt103 => (if bt103.1.toList = bt101.1.toList then (if (bt103.2 != bt101.2) = true then (some false) else (some true)) else (some false)))) true := by
    intro r e1 e2
    exact Ev.bind e1 (Ev.bind e2 (Ev.pos rfl (Ev.neg (by simp) (Ev.now _))))
  have hask := wkAsked_ev a s
  have h2 := isDigit_eq s h1
  cases hp : pieceB (bl a) with
  | false =>
    rw [hp] at hask
    refine same ((⟨#[]⟩ : ByteArray), false) ?_ ?_
    · unfold spec_LongestOnce.f; exact Ev.bind hask (Ev.neg (by simp) (Ev.now _))
    · unfold impl_LongestOnce.f; exact Ev.bindc (by rw [isPiece_eq, hp]) (Ev.neg (by decide) (Ev.now _))
  | true =>
    rw [hp, Bool.true_and] at hask
    cases hd : digsB (bl s) 1 1 with
    | false =>
      rw [hd] at hask h2
      refine same ((⟨#[]⟩ : ByteArray), false) ?_ ?_
      · unfold spec_LongestOnce.f; exact Ev.bind hask (Ev.neg (by simp) (Ev.now _))
      · unfold impl_LongestOnce.f; exact Ev.bindc (by rw [isPiece_eq, hp]) (Ev.pos rfl (Ev.bindc h2 (Ev.neg (by decide) (Ev.now _))))
    | true =>
      rw [hd] at hask h2
      obtain ⟨d, q, e0, e1, e2, e3, e4⟩ := long_both (isPc_of hp) hd
      refine same (digsOf q, true) ?_ ?_
      · unfold spec_LongestOnce.f
        exact Ev.bind hask (Ev.pos rfl (Ev.bind e4 (Ev.now _)))
      · unfold impl_LongestOnce.f
        refine Ev.bindc (by rw [isPiece_eq, hp]) (Ev.pos rfl (Ev.bindc h2 (Ev.pos rfl (Ev.pos e0 (Ev.bind (moves_ev (isPc_of hp)) (Ev.bindc e1 (Ev.bind e2 ?_)))))))
        obtain ⟨K, hK⟩ := e3
        exact ⟨K, fun k hk => by
          have e : impl_digitText.f k q = some (digsOf q) := hK k hk
          show Option.map _ (impl_digitText.f k q) = _
          rw [e]; rfl⟩
end Go.Proofs.YtgmdahmfmpdegaaDoor

namespace Go.Proofs.YtgmdahmfmpdegaaDoor
open Go.RowKit Go.Proofs.YtgmdahmfmpdegaaDoorW.PrintWords Go.ChangeShapes Go.WideShapes

theorem C_scalar {α : Type} {enc : α → Value} {h1 : ∀ x, (enc x).oneCell' = true} {w : World} {A : Option Addr} {l : List α} (hn : l.length ≤ 9223372036854775807)
    (hcell : 0 < l.length → ∃ ad, A = some ad ∧ ∀ j x, l[j]? = some x → w.cell? (ad.add j) = some (enc x)) : (Kd.scalar enc h1).C w A l.length l := by
  refine ⟨rfl, hn, fun hp => ?_⟩
  obtain ⟨ad, hA, hc⟩ := hcell hp
  refine ⟨ad, hA, fun j x hx => ⟨[enc x], rfl, rfl, fun i u hu => ?_⟩⟩
  match i, hu with
  | 0, hu =>
    have : enc x = u := by simpa using hu
    subst this
    show w.cell? (ad.add (j * 1 + 0)) = _
    rw [Nat.mul_one, Nat.add_zero]
    exact hc j x hx
  | i + 1, hu => simp at hu

section
variable {H : Type} {enc : TypeId × Value → H} {P : Program} {w : World} {base : Nat} {spare : Nat → Bool} {held : Bool}

/-- A cell that reads at a slice of whole numbers. -/
theorem read_ints {t e : TypeId} {k : IntKind} {fuel : Nat} {v : Value} {y : DataW H × List MemPlace} (ht : P.underlying t = some (.slice e)) (he : P.underlying e = some (.int k)) (hc : P.cellsOf e = 1)
    (hf : DataW.trod enc P w base spare held fuel t [v] = some y) :
    ∃ (A : Option Addr) (c : Nat) (l : List Int), v = .slice A l.length c ∧ l.length ≤ c ∧ (∀ x ∈ l, (Lit.int k x).wf = true) ∧ (Kd.int k).C w A l.length l := by
  rcases open_ints ht he hc hf with ⟨hcs, _⟩ | ⟨a, len, cap, zs, hcs, _, hl, hm, hz, _, hcell, hwf⟩
  · obtain rfl : v = .slice none 0 0 := by simpa using hcs
    exact ⟨none, 0, [], rfl, Nat.le_refl _, fun x hx => by simp at hx, rfl, by simp, fun h => absurd h (by simp)⟩
  · obtain rfl : v = .slice (some a) len cap := by simpa using hcs
    have hlz : len ≤ zs.length := by rw [hz]; split <;> omega
    have hlen : (zs.take len).length = len := by rw [List.length_take]; omega
    refine ⟨some a, cap, zs.take len, by rw [hlen], by rw [hlen]; exact hl, fun x hx => hwf x (List.mem_of_mem_take hx), ?_⟩
    refine C_scalar (by rw [hlen]; unfold maxLen at hm; omega) (fun hp => ⟨a, rfl, fun j x hj => ?_⟩)
    have hj' : j < len := by have := (List.getElem?_eq_some_iff.1 hj).1; rw [hlen] at this; exact this
    rw [hcell j (by omega)]
    rw [List.getElem?_take_of_lt hj'] at hj
    rw [List.getD_eq_getElem?_getD, hj]; rfl

/-- A cell that reads at a slice of strings. -/
theorem read_strs {t e : TypeId} {fuel : Nat} {v : Value} {y : DataW H × List MemPlace} (ht : P.underlying t = some (.slice e)) (he : P.underlying e = some .string) (hc : P.cellsOf e = 1)
    (hf : DataW.trod enc P w base spare held fuel t [v] = some y) :
    ∃ (A : Option Addr) (c : Nat) (l : List ByteArray), v = .slice A l.length c ∧ l.length ≤ c ∧ (∀ s ∈ l, s.size ≤ 9223372036854775807) ∧ Kd.string.C w A l.length l := by
  rcases open_strings ht he hc hf with ⟨hcs, _⟩ | ⟨a, len, cap, zs, hcs, _, hl, hm, hz, _, hcell, hwf⟩
  · obtain rfl : v = .slice none 0 0 := by simpa using hcs
    exact ⟨none, 0, [], rfl, Nat.le_refl _, fun x hx => by simp at hx, rfl, by simp, fun h => absurd h (by simp)⟩
  · obtain rfl : v = .slice (some a) len cap := by simpa using hcs
    have hlz : len ≤ zs.length := by rw [hz]; split <;> omega
    have hlen : (zs.take len).length = len := by rw [List.length_take]; omega
    refine ⟨some a, cap, zs.take len, by rw [hlen], by rw [hlen]; exact hl, fun x hx => by have := hwf x (List.mem_of_mem_take hx); unfold maxLen at this; omega, ?_⟩
    refine C_scalar (by rw [hlen]; unfold maxLen at hm; omega) (fun hp => ⟨a, rfl, fun j x hj => ?_⟩)
    have hj' : j < len := by have := (List.getElem?_eq_some_iff.1 hj).1; rw [hlen] at this; exact this
    rw [hcell j (by omega)]
    rw [List.getElem?_take_of_lt hj'] at hj
    rw [List.getD_eq_getElem?_getD, hj]; rfl

theorem read_int {t : TypeId} {k : IntKind} {fuel : Nat} {v : Value} {y : DataW H × List MemPlace} (ht : P.underlying t = some (.int k))
    (hf : DataW.trod enc P w base spare held fuel t [v] = some y) : ∃ n : Int, v = .int k n ∧ (Lit.int k n).wf = true := by
  obtain ⟨n, e1, _, h⟩ := DataW.trod_int ht hf
  exact ⟨n, by simpa using e1, h⟩
end

/-- The cells of a datum that holds numbers alone, an array's elements being numbers or structs of numbers. -/
def litsOf : DataW Unit → List Value
  | .lit (.int k n) => [.int k n]
  | .agg l => l.flatMap fun
    | .lit (.int k n) => [.int k n]
    | .agg l2 => l2.flatMap fun
      | .lit (.int k n) => [.int k n]
      | _ => []
    | _ => []
  | _ => []
end Go.Proofs.YtgmdahmfmpdegaaDoor

/- FnExactLongestOnceCardSaid: the law 'FnExactLongestOnce' answers true for every input, and leaves its arguments as they were. The row and its tied card, over the walk of its calls and the pure statement. -/
namespace Go.Proofs.YtgmdahmfmpdegaaDoor.fnExactLongestOnce
open Go.ChangeShapes Go.WideShapes Go.ChangeAt Go.RowKit Go.Proofs.YtgmdahmfmpdegaaDoor.P Go.Proofs.YtgmdahmfmpdegaaDoorW.PrintWords
open Go.ChangeMaps (open_string shut_string)
set_option linter.unusedVariables false
theorem own : ownKnob Tryd.prog.godebug = none := by kernel_rfl
/-- What the row lists of package-level variables. -/
noncomputable def laidList : List (String × DataW Unit) := [("unicode/utf8.acceptRanges", Rows.laid_unicode_utf8_acceptRanges), ("unicode/utf8.first", Rows.laid_unicode_utf8_first)]
/-- A world that meets it: the settled one, the listed variables laid. -/
noncomputable def laidWorld (os : Os) : World :=
  let w0 := World.holding Tryd.prog os ⟨#[], #[], []⟩
  { w0 with heap := ((w0.heap.modify 2 fun o => match o with | .cells _ t frozen => .cells (litsOf Rows.laid_unicode_utf8_acceptRanges).toArray t frozen | o => o).modify 1 fun o => match o with | .cells _ t frozen => .cells (litsOf Rows.laid_unicode_utf8_first).toArray t frozen | o => o) }
theorem laidWorld_met (os : Os) (args : Array Value) : laidMetH Tryd.prog laidList ((laidWorld os).forCall (fun _ _ => 0) ⟨#[], args, []⟩).memory :=
  laidMetH_of_parts3 (fuel := 8) (laidMet_of_run' 8 (by kernel_rfl) (by kernel_rfl)) (by kernel_rfl) (by kernel_rfl)
set_option maxRecDepth 100000 in
theorem lifted (os : Os) (started : os.Started) (H : Type) (enc : TypeId × Value → H) :
    ReturnsInHanded {} Tryd.checked os 4 .any (fun w args => (Rows.fnExactLongestOnceSpec.pre enc Tryd.prog Tryd.f4 [] false w args ∧ laidMetH Tryd.prog laidList w) ∧ sizedMet enc Tryd.prog Tryd.f4 (OpenSpec.ofChange Rows.fnExactLongestOnceSpec) false w args)
      (Rows.fnExactLongestOnceSpec.post enc Tryd.prog Tryd.f4 false true false false) := by
  refine returnsInHanded_of_change_and (C := Tryd.checked) (X := fun w _ => laidMetH Tryd.prog laidList w) (fun _ _ _ hh h => h.of_heap hh) own started (by kernel_rfl) Tryd.func4
    (ChangeSpec.witness_at (enc := enc) (C := Tryd.checked) (os := os) (X := fun w _ => laidMetH Tryd.prog laidList w) false (laidWorld os) #[.string ByteArray.empty, .string ByteArray.empty] 8 rfl (by kernel_rfl) (by kernel_rfl) (by kernel_rfl) (by kernel_rfl) (by kernel_rfl) (laidWorld_met os _)) ?_
  intro W base args ds gs before hval0 hW _ _ hL _
  have hval : ∀ (j : Nat) t v, Tryd.f4.params[j]? = some t → args[j]? = some v → Value.okWide Tryd.prog W .any base t v := hval0
  have hW' := hW
  obtain ⟨p, q, hA0, hV, rfl, hfz, hnd⟩ := hW
  have hA : DataW.TrodAll enc Tryd.prog W 0 (fun _ => true) true Tryd.f4.params.toList args.toList ds p := hA0
  rw [Tryd.params4] at hA hval
  obtain ⟨v0, vs0, d0, ds0, p0, q0, hargs, rfl, rfl, h0, r0⟩ := trodAll_cons hA
  obtain ⟨v1, vs1, d1, ds1, p1, q1, rfl, rfl, rfl, h1, r1⟩ := trodAll_cons r0
  obtain ⟨rfl, rfl, rfl⟩ := trodAll_nil r1
  obtain rfl : args = #[v0, v1] := by cases args; simp_all
  obtain ⟨rfl, rfl⟩ := trodVars_none hV
  obtain ⟨a0, rfl, rfl, rfl, y0⟩ := open_string Tryd.underlying9 (hval 0 9 v0 rfl rfl) h0
  have z0 : a0.size ≤ 9223372036854775807 := by unfold maxLen at y0; omega
  obtain ⟨a1, rfl, rfl, rfl, y1⟩ := open_string Tryd.underlying9 (hval 1 9 v1 rfl rfl) h1
  have z1 : a1.size ≤ 9223372036854775807 := by unfold maxLen at y1; omega
  clear hA0 hval0
  simp only [List.append_nil] at hW'
  obtain ⟨k, hk⟩ := pure_FnExactLongestOnce a0 a1 z0 z1
  refine (laws_FnExactLongestOnce.calls k a0 a1 true W  hk).mono fun e W' ⟨he, bel0⟩ => ?_
  have bel : Below W.heap.size W W' := bel0
  subst he
  exact ⟨_, rfl, _, _, _, [], _, [], hW', trodAll_mk1 (shut_bool Tryd.underlying4 _), (trodAll_cons_mk (shut_string Tryd.underlying9 y0) (trodAll_cons_mk (shut_string Tryd.underlying9 y1) trodAll_mk0)), rfl, bel.frame _, fun h => by cases h⟩
theorem over : Rows.fnExactLongestOnceRow.holds Tryd.pinned (OpenSpec.ofChange Rows.fnExactLongestOnceSpec) :=
  OpenClaim.holds_of_wide 4 Tryd.f4 rfl rfl rfl rfl rfl rfl rfl ⟨rfl, rfl, rfl, rfl, rfl⟩ rfl rfl rfl rfl rfl (by kernel_rfl) Tryd.func4 (by kernel_rfl)
    (of_decide_eq_true (by kernel_rfl)) (by unfold Func.isWrapper; first | (rw [if_pos (by decide +kernel)]; kernel_rfl) | (rw [if_neg (by decide +kernel)]; exact ⟨rfl, rfl⟩))
    (fun os started H enc _ => lifted os started H enc)
theorem proved : Rows.FnExactLongestOnceSaid := over
theorem card : Rows.FnExactLongestOnceCardSaid :=
  Claim7.holds_tied_plain_at .later [] [.data, .pinned] true (true, "0ac3dedbf5dd8876fab4e3ee977d3ad0a9c5097fdd569fde1d5542f41c9002f4") false
    proved (fun _ h => by cases h) (by kernel_rfl) (fun _ h => by cases h) fnExactLongestOnce_row_tie rfl ⟨rfl, rfl⟩ (by kernel_rfl) rfl
    (fun f fn hf hfn => by
      obtain rfl : f = 4 := Option.some.inj ((show Tryd.prog.funcNamed "loop.example/g01350/laws.FnExactLongestOnce" = some 4 by kernel_rfl).symm.trans hf) |>.symm
      obtain rfl : fn = Tryd.f4 := (Option.some.inj (Tryd.func4.symm.trans hfn)).symm
      exact ⟨by kernel_rfl, fun j t ht => by
        rw [Tryd.params4] at ht
        have hm : t ∈ #[9, 9] := Array.mem_of_getElem? ht
        have hm : t ∈ [9, 9] := by simpa using hm
        have hall : ([9, 9].all fun u => !Tryd.prog.wantsStandIn u) = true := by kernel_rfl
        exact (show Tryd.prog.wantsStandIn t = false by simpa using List.all_eq_true.1 hall t hm)⟩)
    (by kernel_rfl)
#print axioms card
end Go.Proofs.YtgmdahmfmpdegaaDoor.fnExactLongestOnce
namespace Go.Proofs.YtgmdahmfmpdegaaDoor
theorem fnExactLongestOnce_holds : Rows.FnExactLongestOnceCardSaid := fnExactLongestOnce.card
end Go.Proofs.YtgmdahmfmpdegaaDoor

