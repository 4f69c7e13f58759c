/- Part 6 of 6 of the proof of: FnWalksGoCardSaid: the law 'FnWalksGo' answers true for every input, and leaves its arguments as they were. The row and its tied card, over the walk of its calls and the pure statement. -/
import Derived.Test.YtffbfkfbeggdnaaGreatDoorMFnWalksGo5
import Derived.Test.YtffbfkfbeggdnaaGreatDoorMFnWalksGo2
import Derived.Test.YtffbfkfbeggdnaaGreatDoorMFnWalksGo4
import Derived.Laws.BitsLemmas
import Derived.Laws.Bits64
import Derived.Test.YtffbfkfbeggdnaaGreatDoorMFnWalksGo3
import Derived.Test.YtffbfkfbeggdnaaGreatDoorMFnWalksGoW
import Derived.WalkKit
import Derived.ProofKit
import Derived.OpenShut
import Derived.ShutString
import Derived.ChangeOld
import Derived.Below
import Derived.SizedLaws
import Derived.ChangeSlices
import Derived.SliceStrings
import Derived.Lib.SmallJoins
import Derived.LaidLaws
import Derived.LaidHandle
import Derived.LaidMore
import Derived.Test.YtffbfkfbeggdnaaGreatDoorRows
import Derived.Test.YtffbfkfbeggdnaaGreatDoorCards
import Derived.Test.YtffbfkfbeggdnaaGreatDoorTie
import Derived.HandedShaped
import Derived.Shelf.Vars
import Derived.Handed
import Derived.SevenTiedAt
import Derived.Stop.Joined
namespace Go.Proofs.YtffbfkfbeggdnaaGreatDoor
open Go.RowKit Go.Proofs.YtffbfkfbeggdnaaGreatDoor.P Go.Proofs.YtffbfkfbeggdnaaGreatDoorW.PrintWords
set_option linter.unusedSimpArgs false
set_option linter.unusedVariables false
theorem nexts_n : ∀ d : Fin 10, impl_nexts.f 200 ⟨#[110]⟩ (d.val : Int) = some ((tbl ⟨#[110]⟩).getD d.val []) := by decide +kernel
theorem nexts_k : ∀ d : Fin 10, impl_nexts.f 200 ⟨#[107]⟩ (d.val : Int) = some ((tbl ⟨#[107]⟩).getD d.val []) := by decide +kernel
theorem nexts_r : ∀ d : Fin 10, impl_nexts.f 200 ⟨#[114]⟩ (d.val : Int) = some ((tbl ⟨#[114]⟩).getD d.val []) := by decide +kernel
theorem nexts_b : ∀ d : Fin 10, impl_nexts.f 200 ⟨#[98]⟩ (d.val : Int) = some ((tbl ⟨#[98]⟩).getD d.val []) := by decide +kernel
theorem nexts_ev {p : ByteArray} (h : isPc p) (d : Nat) (hd : d < 10) : Ev (fun k => impl_nexts.f k p d) ((tbl p).getD d []) := by
  refine Ev.of (k := 200) (impl_nexts.mono _ _) ?_
  rcases h with rfl | rfl | rfl | rfl
  · exact nexts_n ⟨d, hd⟩
  · exact nexts_k ⟨d, hd⟩
  · exact nexts_r ⟨d, hd⟩
  · exact nexts_b ⟨d, hd⟩
/-- The next digit for a rank, and the rank behind it (the digit itself if there is none). -/
def pickP (row : List Int) (d : Int) : List Int → Int → Int × Int
  | [], rk => (d, rk)
  | e :: es, rk => if rk < rd row e then (e, rk) else pickP row d es (wrap64 (rk - rd row e))
def walkR (tb : List (List Int)) : Nat → Int → Int → List Int
  | 0, _, _ => []
  | r + 1, d, rk => (pickP (itr tb (row0 0) r) d (tb.getD d.toNat []) rk).1 :: walkR tb r (pickP (itr tb (row0 0) r) d (tb.getD d.toNat []) rk).1 (pickP (itr tb (row0 0) r) d (tb.getD d.toNat []) rk).2
theorem pickP_dig (row : List Int) (d : Int) (hd : 0 ≤ d ∧ d < 10) : ∀ (es : List Int) (rk : Int), (∀ x ∈ es, 0 ≤ x ∧ x < 10) → 0 ≤ (pickP row d es rk).1 ∧ (pickP row d es rk).1 < 10
  | [], rk, _ => hd
  | e :: es, rk, h => by
    simp only [pickP]
    split
    · exact h e List.mem_cons_self
    · exact pickP_dig row d hd es _ (fun x hx => h x (List.mem_cons_of_mem _ hx))
theorem walkR_dig {p : ByteArray} (hp : isPc p) : ∀ (r : Nat) (d rk : Int), 0 ≤ d ∧ d < 10 → ∀ x ∈ walkR (tbl p) r d rk, 0 ≤ x ∧ x < 10
  | 0, d, rk, hd => by simp [walkR]
  | r + 1, d, rk, hd => by
    have hx := ((tbl_shape hp).2 _ (rd_tbl hp d.toNat (by omega))).2
    have h1 := pickP_dig (itr (tbl p) (row0 0) r) d hd _ rk hx
    intro x h
    simp only [walkR, List.mem_cons] at h
    rcases h with rfl | h
    · exact h1
    · exact walkR_dig hp r _ _ h1 x h
theorem walkR_len (tb : List (List Int)) : ∀ (r : Nat) (d rk : Int), (walkR tb r d rk).length = r
  | 0, _, _ => rfl
  | r + 1, d, rk => by simp [walkR, walkR_len tb r]
theorem impl_l1 {p : ByteArray} (d : Int) (lst : List Int) (r : Int) (row : List Int) (hr : row.length = 10) (es : List Int) (hes : es.length ≤ 8) (hx : ∀ x ∈ es, 0 ≤ x ∧ x < 10) (hl : lst.length ≤ 1000) (res : ByteArray × Bool) : ∀ (n j : Nat) (rk : Int), j + n = es.length →
    Ev (fun k => impl_NumberOfRank.l0 k p (pickP row d (es.drop j) rk).2 (pickP row d (es.drop j) rk).1 (lst ++ [(pickP row d (es.drop j) rk).1]) (wrap64 (r - 1))) res →
    Ev (fun k => impl_NumberOfRank.l1 k p rk d lst r row es (es.length : Int) j) res
  | 0, j, rk, hj, h => by
    apply Ev.succ
    simp only [impl_NumberOfRank.l1]
    refine Ev.neg (by omega) (Ev.pos (by omega) ?_)
    rw [List.drop_of_length_le (by omega)] at h
    exact h
  | n + 1, j, rk, hj, h => by
    have hlt : j < es.length := by omega
    have hxj := hx _ (List.getElem_mem hlt)
    apply Ev.succ
    simp only [impl_NumberOfRank.l1]
    rw [rd_nat es j hlt, wrap_id (n := (j : Int) + 1) (by omega) (by omega)]
    refine Ev.pos (by omega) (Ev.pos (by omega) (Ev.pos (by omega) (Ev.pos hxj.1 (Ev.pos (by omega) ?_))))
    rw [List.drop_eq_getElem_cons hlt, pickP] at h
    by_cases c : rk < rd row es[j]
    · rw [if_pos c] at h
      exact Ev.pos c (Ev.pos (by omega) h)
    · rw [if_neg c] at h
      refine Ev.neg c ?_
      rw [show (j : Int) + 1 = ((j + 1 : Nat) : Int) by omega]
      exact impl_l1 d lst r row hr es hes hx hl res n (j + 1) _ (by omega) h
theorem impl_l0 {p : ByteArray} (hp : isPc p) : ∀ (r : Nat) (d : Nat) (rk : Int) (lst : List Int), d < 10 → r + lst.length ≤ 1000 → (∀ x ∈ lst, 0 ≤ x ∧ x < 10) →
    Ev (fun k => impl_NumberOfRank.l0 k p rk d lst r) (strOfNums ((lst ++ walkR (tbl p) r d rk).map (48 + ·)), true)
  | 0, d, rk, lst, hd, hl, hx => by
    apply Ev.succ
    simp only [impl_NumberOfRank.l0]
    refine Ev.neg (by omega) ?_
    rw [walkR, List.append_nil]
    exact Ev.bind (digitText_ev lst (by omega) hx) (Ev.now _)
  | r + 1, d, rk, lst, hd, hl, hx => by
    obtain ⟨h8, hx8⟩ := (tbl_shape hp).2 _ (rd_tbl hp d hd)
    have hq := pickP_dig (itr (tbl p) (row0 0) r) (d : Int) ⟨by omega, by omega⟩ ((tbl p).getD d []) rk hx8
    obtain ⟨e, he⟩ : ∃ e : Nat, (pickP (itr (tbl p) (row0 0) r) (d : Int) ((tbl p).getD d []) rk).1 = e := ⟨_, (Int.toNat_of_nonneg hq.1).symm⟩
    apply Ev.succ
    simp only [impl_NumberOfRank.l0]
    refine Ev.pos (by omega) ?_
    rw [show (((r + 1 : Nat) : Int)) = (r : Int) + 1 by omega]
    refine Ev.bind (numbers_ev hp r (by omega)) (Ev.bind (nexts_ev hp d hd) ?_)
    refine impl_l1 (d : Int) lst ((r : Int) + 1) _ (itr_len (tbl_shape hp).1 (row0_len 0) r) _ h8 hx8 (by omega) _ ((tbl p).getD d []).length 0 rk (by omega) ?_
    rw [List.drop_zero, he, show wrap64 ((r : Int) + 1 - 1) = r by rw [wrap_id (by omega) (by omega)]; omega]
    have h := impl_l0 hp r e (pickP (itr (tbl p) (row0 0) r) (d : Int) ((tbl p).getD d []) rk).2 (lst ++ [(e : Int)]) (by omega) (by simp; omega) (by
      intro x hx'
      rcases List.mem_append.1 hx' with h' | h'
      · exact hx x h'
      · rw [List.mem_singleton] at h'; omega)
    have ew : lst ++ walkR (tbl p) (r + 1) d rk = lst ++ [(e : Int)] ++ walkR (tbl p) r e (pickP (itr (tbl p) (row0 0) r) (d : Int) ((tbl p).getD d []) rk).2 := by
      rw [walkR, Int.toNat_natCast, he, List.append_assoc]; rfl
    rw [ew]
    exact h
theorem sign_enc (e : Nat) (h : e < 10) : Utf8.encode (wrap32 (48 + (e : Int))) = ⟨#[UInt8.ofNat (48 + e)]⟩ := by
  have : ∀ e : Fin 10, Utf8.encode (wrap32 (48 + (e.val : Int))) = ⟨#[UInt8.ofNat (48 + e.val)]⟩ := by decide +kernel
  exact this ⟨e, h⟩
def signs (l : List Int) : List UInt8 := l.map fun e => UInt8.ofNat (48 + e.toNat)
theorem bl_snoc (out : ByteArray) (c : UInt8) : bl (out ++ ⟨#[c]⟩) = bl out ++ [c] := by
  show ((out ++ ⟨#[c]⟩ : ByteArray).data).toList = _
  rw [ByteArray.data_append, Array.toList_append]; rfl
theorem spec_l1 {p : ByteArray} (d : Nat) (hd : d < 10) (out : ByteArray) (ho : (bl out).length ≤ 1000) (r : Nat) (rows : List (List Int)) (row : List Int) (hrw : rows.getD r [] = row) (hrl : r < rows.length) (hr : row.length = 10) (hr1 : r ≤ 1000) (es : List Int) (hes : es.length ≤ 8) (hx : ∀ x ∈ es, 0 ≤ x ∧ x < 10) (Q : ByteArray × Bool → Prop) : ∀ (n j : Nat) (rk : Int), j + n = es.length →
    (∃ q, Ev (fun k => spec_NumberOfRank.l0 k p (pickP row d (es.drop j) rk).2 rows (out ++ Utf8.encode (wrap32 (48 + (pickP row d (es.drop j) rk).1))) (48 + (pickP row d (es.drop j) rk).1) (wrap64 (r - 1))) q ∧ Q q) →
    ∃ q, Ev (fun k => spec_NumberOfRank.l1 k p rk rows out (48 + d) r (digsOf es) j) q ∧ Q q
  | 0, j, rk, hj, h => by
    rw [List.drop_of_length_le (by omega)] at h
    obtain ⟨q, h1, h2⟩ := h
    refine ⟨q, ?_, h2⟩
    apply Ev.succ
    simp only [spec_NumberOfRank.l1]
    refine Ev.neg (by rw [digsOf_len]; omega) (Ev.pos ?_ h1)
    rw [sign_enc d hd]
    have : out.size = (bl out).length := rfl
    show out.size + 1 ≤ _
    omega
  | n + 1, j, rk, hj, h => by
    have hlt : j < es.length := by omega
    have hxj := hx _ (List.getElem_mem hlt)
    have e8 : (48 + es[j] - 48) % 256 = es[j] := by rw [show 48 + es[j] - 48 = es[j] by omega]; exact Int.emod_eq_of_lt (by omega) (by omega)
    have erow : rd_L5 rows (r : Int) = row := by unfold rd_L5; rw [Int.toNat_natCast]; exact hrw
    rw [List.drop_eq_getElem_cons hlt, pickP] at h
    have step : ∀ q, Ev (fun k => if rk < rd row es[j] then (if out.size + (Utf8.encode (wrap32 (48 + es[j]))).size ≤ 9223372036854775807 then (spec_NumberOfRank.l0 k p rk rows (out ++ (Utf8.encode (wrap32 (48 + es[j])))) (48 + es[j]) (wrap64 (r - 1))) else none) else (spec_NumberOfRank.l1 k p (wrap64 (rk - rd row es[j])) rows out (48 + d) r (digsOf es) (wrap64 ((j : Int) + 1)))) q → Ev (fun k => spec_NumberOfRank.l1 k p rk rows out (48 + d) r (digsOf es) j) q := by
      intro q hq
      apply Ev.succ
      simp only [spec_NumberOfRank.l1]
      rw [digsOf_bt es hx j hlt, e8, erow]
      exact Ev.pos (by rw [digsOf_len]; omega) (Ev.pos (by omega) (Ev.pos (by omega) (Ev.pos (by omega) (Ev.pos hxj.1 (Ev.pos (by omega) hq)))))
    by_cases c : rk < rd row es[j]
    · rw [if_pos c] at h
      obtain ⟨q, h1, h2⟩ := h
      refine ⟨q, step q (Ev.pos c (Ev.pos ?_ h1)), h2⟩
      obtain ⟨e, he⟩ : ∃ e : Nat, es[j] = e := ⟨_, (Int.toNat_of_nonneg hxj.1).symm⟩
      rw [he, sign_enc e (by omega)]
      have : out.size = (bl out).length := rfl
      show out.size + 1 ≤ _
      omega
    · rw [if_neg c] at h
      obtain ⟨q, h1, h2⟩ := spec_l1 d hd out ho r rows row hrw hrl hr hr1 es hes hx Q n (j + 1) _ (by omega) h
      refine ⟨q, step q (Ev.neg c ?_), h2⟩
      rw [wrap_id (n := (j : Int) + 1) (by omega) (by omega), show (j : Int) + 1 = ((j + 1 : Nat) : Int) by omega]
      exact h1
theorem spec_l0 {p : ByteArray} (hp : isPc p) (m : Nat) (hm : m ≤ 1000) : ∀ (r : Nat) (d : Nat) (rk : Int) (out : ByteArray), d < 10 → r ≤ m → r + (bl out).length ≤ 1000 →
    ∃ q, Ev (fun k => spec_NumberOfRank.l0 k p rk (rowsOf (tbl p) (row0 0) m) out (48 + d) ((r : Int) - 1)) q ∧ (bl q.1 = bl out ++ signs (walkR (tbl p) r d rk) ∧ q.2 = true)
  | 0, d, rk, out, hd, hr, hl => by
    refine ⟨(out, true), ?_, by simp [walkR, signs], rfl⟩
    apply Ev.succ
    simp only [spec_NumberOfRank.l0]
    exact Ev.neg (by omega) (Ev.now _)
  | r + 1, d, rk, out, hd, hr, hl => by
    obtain ⟨h8, hx8⟩ := (tbl_shape hp).2 _ (rd_tbl hp d hd)
    have hq := pickP_dig (itr (tbl p) (row0 0) r) (d : Int) ⟨by omega, by omega⟩ ((tbl p).getD d []) rk hx8
    obtain ⟨e, he⟩ : ∃ e : Nat, (pickP (itr (tbl p) (row0 0) r) (d : Int) ((tbl p).getD d []) rk).1 = e := ⟨_, (Int.toNat_of_nonneg hq.1).symm⟩
    have he10 : e < 10 := by omega
    have h := spec_l0 hp m hm r e (pickP (itr (tbl p) (row0 0) r) (d : Int) ((tbl p).getD d []) rk).2 (out ++ ⟨#[UInt8.ofNat (48 + e)]⟩) he10 (by omega) (by rw [bl_snoc]; simp; omega)
    have h2 := spec_l1 (p := p) d hd out (by omega) r (rowsOf (tbl p) (row0 0) m) (itr (tbl p) (row0 0) r) (by have := rowsOf_at (tbl p) (row0 0) m r (by omega); rwa [Int.toNat_natCast] at this) (by rw [rowsOf_len]; omega) (itr_len (tbl_shape hp).1 (row0_len 0) r) (by omega) _ h8 hx8
      (fun q => bl q.1 = bl out ++ signs (walkR (tbl p) (r + 1) d rk) ∧ q.2 = true) ((tbl p).getD d []).length 0 rk (by omega) (by
        rw [List.drop_zero, he, sign_enc e he10, wrap_id (n := (r : Int) - 1) (by omega) (by omega)]
        obtain ⟨q, h1, h2, h3⟩ := h
        refine ⟨q, h1, ?_, h3⟩
        rw [h2, bl_snoc, walkR, Int.toNat_natCast, he, List.append_assoc]; rfl)
    obtain ⟨q, h3, h4⟩ := h2
    refine ⟨q, ?_, h4⟩
    apply Ev.succ
    simp only [spec_NumberOfRank.l0]
    rw [show (((r + 1 : Nat) : Int) - 1) = (r : Int) by omega]
    exact Ev.pos (by omega) (Ev.bind (wkNext_ev hp d hd) h3)
theorem strOf_signs (l : List Int) (h : ∀ x ∈ l, 0 ≤ x ∧ x < 10) : bl (strOfNums (l.map (48 + ·))) = signs l := by
  unfold signs
  rw [bl_nums, List.map_map]
  apply List.map_congr_left
  intro x hx
  have := h x hx
  show UInt8.ofNat (48 + x).toNat = UInt8.ofNat (48 + x.toNat)
  congr 1; omega
end Go.Proofs.YtffbfkfbeggdnaaGreatDoor
namespace Go.Proofs.YtffbfkfbeggdnaaGreatDoor
open Go.RowKit Go.Proofs.YtffbfkfbeggdnaaGreatDoor.P Go.Proofs.YtffbfkfbeggdnaaGreatDoorW.PrintWords IsWalk RankOf
set_option linter.unusedSimpArgs false
set_option linter.unusedVariables false
/-! Ranks and walks undo one another; sums below the cap are plain sums. -/
namespace WalkV
/-- The plain sum over the next keys. -/
def sumP (row : List Int) : List Int → Int
  | [] => 0
  | e :: es => rd row e + sumP row es
def bnd (row : List Int) : Prop := ∀ e : Int, 0 ≤ rd row e ∧ rd row e ≤ 1000000000000001
theorem bnd_itr (tb : List (List Int)) (m : Nat) : bnd (itr tb (row0 0) m) := fun e => rd_bd _ (itr_bd tb (row0 0) row0_bd m) e
theorem sumP_nn {row : List Int} (hb : bnd row) : ∀ es, 0 ≤ sumP row es
  | [] => by simp [sumP]
  | e :: es => by have := sumP_nn hb es; have := (hb e).1; simp only [sumP]; omega
theorem sumOf_ge {row : List Int} (hb : bnd row) : ∀ (es : List Int) (a : Int), 0 ≤ a → a ≤ 1000000000000001 → a ≤ sumOf row es a
  | [], a, _, _ => by simp [sumOf]
  | e :: es, a, h0, h1 => by
    have h := hb e
    have hw : wrap64 (a + rd row e) = a + rd row e := wrap_id (by omega) (by omega)
    have e1 : sumOf row (e :: es) a = sumOf row es (mn (a + rd row e) 1000000000000001) := by
      show sumOf row es (mn (wrap64 (a + rd row e)) 1000000000000001) = _
      rw [hw]
    rw [e1]
    have hm : a ≤ mn (a + rd row e) 1000000000000001 ∧ mn (a + rd row e) 1000000000000001 ≤ 1000000000000001 := by unfold mn; split <;> omega
    have := sumOf_ge hb es _ (by omega) hm.2
    omega
theorem sumOf_plain {row : List Int} (hb : bnd row) : ∀ (es : List Int) (a : Int), 0 ≤ a → a ≤ 1000000000000000 → sumOf row es a ≤ 1000000000000000 → sumOf row es a = a + sumP row es ∧ ∀ x ∈ es, rd row x ≤ 1000000000000000
  | [], a, _, _, _ => by simp [sumOf, sumP]
  | e :: es, a, h0, h1, h2 => by
    have h := hb e
    have hw : wrap64 (a + rd row e) = a + rd row e := wrap_id (by omega) (by omega)
    have e1 : sumOf row (e :: es) a = sumOf row es (mn (a + rd row e) 1000000000000001) := by
      show sumOf row es (mn (wrap64 (a + rd row e)) 1000000000000001) = _
      rw [hw]
    rw [e1] at h2 ⊢
    by_cases c : a + rd row e ≤ 1000000000000000
    · have em : mn (a + rd row e) 1000000000000001 = a + rd row e := by unfold mn; split <;> omega
      rw [em] at h2 ⊢
      obtain ⟨q1, q2⟩ := sumOf_plain hb es _ (by omega) c h2
      refine ⟨by rw [q1, sumP]; omega, ?_⟩
      intro x hx
      rcases List.mem_cons.1 hx with rfl | hx
      · omega
      · exact q2 x hx
    · have em : 1000000000000001 ≤ mn (a + rd row e) 1000000000000001 ∧ mn (a + rd row e) 1000000000000001 ≤ 1000000000000001 := by unfold mn; split <;> omega
      have := sumOf_ge hb es (mn (a + rd row e) 1000000000000001) (by omega) em.2
      omega
theorem itr_at {p : ByteArray} (hp : isPc p) (m d : Nat) (hd : d < 10) : rd (itr (tbl p) (row0 0) (m + 1)) (d : Int) = sumOf (itr (tbl p) (row0 0) m) ((tbl p).getD d []) 0 := by
  have hl := (tbl_shape hp).1
  show rd (stp (tbl p) (itr (tbl p) (row0 0) m)) (d : Int) = _
  unfold stp
  rw [rd_nat _ d (by simp; omega)]
  simp [List.getD, show d < (tbl p).length by omega]
theorem one_at : ∀ d : Fin 10, rd (row0 0) (d.val : Int) = 1 := by decide
/-- The next key for a rank, and what it adds. -/
theorem pick_add {row : List Int} (hb : bnd row) (d0 : Int) : ∀ (es : List Int) (rk : Int), rises es = true → 0 ≤ rk → rk < sumP row es → rk ≤ 1000000000000000 →
    (pickP row d0 es rk).1 ∈ es ∧ 0 ≤ (pickP row d0 es rk).2 ∧ (pickP row d0 es rk).2 < rd row (pickP row d0 es rk).1 ∧ (pickP row d0 es rk).2 ≤ rk ∧
    ∀ acc : Int, 0 ≤ acc → acc + rk ≤ 1000000000000000 → addS row (pickP row d0 es rk).1 es acc = acc + (rk - (pickP row d0 es rk).2)
  | [], rk, _, h0, h1, _ => by simp [sumP] at h1; omega
  | e :: es, rk, hr, h0, h1, h2 => by
    have he := hb e
    by_cases c : rk < rd row e
    · have e1 : pickP row d0 (e :: es) rk = (e, rk) := by rw [pickP, if_pos c]
      rw [e1]
      refine ⟨List.mem_cons_self, h0, c, Int.le_refl _, fun acc _ _ => ?_⟩
      simp only [addS, if_pos]
      omega
    · have hw : wrap64 (rk - rd row e) = rk - rd row e := wrap_id (by omega) (by omega)
      have e1 : pickP row d0 (e :: es) rk = pickP row d0 es (rk - rd row e) := by rw [pickP, if_neg c, hw]
      rw [e1]
      simp only [sumP] at h1
      obtain ⟨q1, q2, q3, q4, q5⟩ := pick_add hb d0 es (rk - rd row e) (rises_tail e es hr) (by omega) (by omega) (by omega)
      have hlt := rises_lt es e hr _ q1
      refine ⟨List.mem_cons_of_mem _ q1, q2, q3, by omega, fun acc a0 a1 => ?_⟩
      have hw2 : wrap64 (acc + rd row e) = acc + rd row e := wrap_id (by omega) (by omega)
      rw [addS, if_neg (by omega), hw2, q5 _ (by omega) (by omega)]
      omega
/-- What a next key adds, and that its ranks lead to it. -/
theorem add_pick {row : List Int} (hb : bnd row) (d0 e : Int) : ∀ (es : List Int), rises es = true → e ∈ es → sumP row es ≤ 1000000000000000 →
    ∃ P : Int, 0 ≤ P ∧ P + rd row e ≤ sumP row es ∧ (∀ acc : Int, 0 ≤ acc → acc + P ≤ 1000000000000000 → addS row e es acc = acc + P) ∧ ∀ rk : Int, 0 ≤ rk → rk < rd row e → pickP row d0 es (P + rk) = (e, rk)
  | [], _, h, _ => by simp at h
  | x :: es, hr, hm, hs => by
    have hx := hb x
    have hn := sumP_nn hb es
    simp only [sumP] at hs ⊢
    by_cases c : x = e
    · subst c
      refine ⟨0, by omega, by omega, fun acc _ _ => by simp [addS], fun rk h0 h1 => ?_⟩
      rw [Int.zero_add, pickP, if_pos h1]
    · have hm' : e ∈ es := by rcases List.mem_cons.1 hm with h | h; exact absurd h.symm c; exact h
      obtain ⟨P, q1, q2, q3, q4⟩ := add_pick hb d0 e es (rises_tail x es hr) hm' (by omega)
      have he := hb e
      refine ⟨rd row x + P, by omega, by omega, fun acc a0 a1 => ?_, fun rk h0 h1 => ?_⟩
      · have hw : wrap64 (acc + rd row x) = acc + rd row x := wrap_id (by omega) (by omega)
        rw [addS, if_neg c, hw, q3 _ (by omega) (by omega)]; omega
      · have hw : wrap64 (rd row x + P + rk - rd row x) = P + rk := by rw [wrap_id (by omega) (by omega)]; omega
        rw [pickP, if_neg (by omega), hw]
        exact q4 rk h0 h1
theorem sign_nat (x : Int) (h : 0 ≤ x ∧ x < 10) : ((UInt8.ofNat (48 + x.toNat)).toNat : Int) - 48 = x ∧ (UInt8.ofNat (48 + x.toNat)).toNat - 48 = x.toNat := by
  have e : (UInt8.ofNat (48 + x.toNat)).toNat = 48 + x.toNat := by rw [UInt8.toNat_ofNat']; omega
  rw [e]; omega
/-- The walk of a rank is a walk, and its rank is that rank. -/
theorem walk_rank {p : ByteArray} (hp : isPc p) : ∀ (m : Nat) (d rk : Int), 0 ≤ d ∧ d < 10 → 0 ≤ rk → rk < rd (itr (tbl p) (row0 0) m) d → rd (itr (tbl p) (row0 0) m) d ≤ 1000000000000000 →
    walkB p (signs (d :: walkR (tbl p) m d rk)) = true ∧ ∀ acc : Int, 0 ≤ acc → acc + rk ≤ 1000000000000000 → rankP (tbl p) (signs (d :: walkR (tbl p) m d rk)) acc = acc + rk
  | 0, d, rk, hd, h0, h1, h2 => by
    have e := one_at ⟨d.toNat, by omega⟩
    simp only [Int.toNat_of_nonneg hd.1] at e
    rw [itr, e] at h1
    refine ⟨by simp [walkR, signs, walkB], fun acc _ _ => ?_⟩
    simp only [walkR, signs, List.map, rankP]; omega
  | m + 1, d, rk, hd, h0, h1, h2 => by
    obtain ⟨dn, rfl⟩ : ∃ n : Nat, d = n := ⟨d.toNat, (Int.toNat_of_nonneg hd.1).symm⟩
    have hb := bnd_itr (tbl p) m
    rw [itr_at hp m dn (by omega)] at h1 h2
    obtain ⟨e1, e2⟩ := sumOf_plain hb _ 0 (by omega) (by omega) h2
    rw [e1, Int.zero_add] at h1 h2
    have hmem := rd_tbl hp dn (by omega)
    obtain ⟨q1, q2, q3, q4, q5⟩ := pick_add hb (dn : Int) ((tbl p).getD dn []) rk (tbl_rises hp _ hmem) h0 h1 (by omega)
    have hx := ((tbl_shape hp).2 _ hmem).2 _ q1
    have hc := e2 _ q1
    have ew : walkR (tbl p) (m + 1) (dn : Int) rk = (pickP (itr (tbl p) (row0 0) m) (dn : Int) ((tbl p).getD dn []) rk).1 :: walkR (tbl p) m (pickP (itr (tbl p) (row0 0) m) (dn : Int) ((tbl p).getD dn []) rk).1 (pickP (itr (tbl p) (row0 0) m) (dn : Int) ((tbl p).getD dn []) rk).2 := by
      rw [walkR, Int.toNat_natCast]
    rw [ew]
    generalize hpk : pickP (itr (tbl p) (row0 0) m) (dn : Int) ((tbl p).getD dn []) rk = pk at q1 q2 q3 q4 q5 hx hc
    obtain ⟨w1, w2⟩ := walk_rank hp m pk.1 pk.2 hx q2 q3 hc
    have s1 := sign_nat (dn : Int) (by omega)
    have s2 := sign_nat pk.1 hx
    rw [Int.toNat_natCast] at s1
    have es : signs ((dn : Int) :: pk.1 :: walkR (tbl p) m pk.1 pk.2) = UInt8.ofNat (48 + dn) :: UInt8.ofNat (48 + pk.1.toNat) :: signs (walkR (tbl p) m pk.1 pk.2) := by simp [signs]
    have es2 : signs (pk.1 :: walkR (tbl p) m pk.1 pk.2) = UInt8.ofNat (48 + pk.1.toNat) :: signs (walkR (tbl p) m pk.1 pk.2) := by simp [signs]
    rw [es2] at w1 w2
    rw [es]
    constructor
    · rw [walkB, Bool.and_eq_true]
      refine ⟨decide_eq_true ?_, w1⟩
      rw [s2.1, s1.2]; exact q1
    · intro acc a0 a1
      rw [rankP, s2.1, s1.2]
      have hl : (signs (walkR (tbl p) m pk.1 pk.2)).length = m := by simp [signs, walkR_len]
      rw [hl, q5 acc a0 a1, w2 _ (by omega) (by omega)]
      omega
/-- A walk's rank leads to the walk. -/
theorem rank_walk {p : ByteArray} (hp : isPc p) : ∀ (ds : List Int) (d : Int), 0 ≤ d ∧ d < 10 → (∀ x ∈ ds, 0 ≤ x ∧ x < 10) → walkB p (signs (d :: ds)) = true → rd (itr (tbl p) (row0 0) ds.length) d ≤ 1000000000000000 →
    ∃ rk : Int, 0 ≤ rk ∧ rk < rd (itr (tbl p) (row0 0) ds.length) d ∧ (∀ acc : Int, 0 ≤ acc → acc + rk ≤ 1000000000000000 → rankP (tbl p) (signs (d :: ds)) acc = acc + rk) ∧ walkR (tbl p) ds.length d rk = ds
  | [], d, hd, _, hw, hc => by
    have e := one_at ⟨d.toNat, by omega⟩
    simp only [Int.toNat_of_nonneg hd.1] at e
    refine ⟨0, by omega, ?_, fun acc _ _ => ?_, rfl⟩
    · show 0 < rd (row0 0) d; omega
    · simp only [signs, List.map, rankP]; omega
  | x :: ds, d, hd, hx, hw, hc => by
    obtain ⟨dn, rfl⟩ : ∃ n : Nat, d = n := ⟨d.toNat, (Int.toNat_of_nonneg hd.1).symm⟩
    have hx0 := hx x List.mem_cons_self
    have s1 := sign_nat (dn : Int) (by omega)
    have s2 := sign_nat x hx0
    rw [Int.toNat_natCast] at s1
    have es : signs ((dn : Int) :: x :: ds) = UInt8.ofNat (48 + dn) :: UInt8.ofNat (48 + x.toNat) :: signs ds := by simp [signs]
    have es2 : signs (x :: ds) = UInt8.ofNat (48 + x.toNat) :: signs ds := by simp [signs]
    rw [es, walkB, Bool.and_eq_true, s2.1, s1.2] at hw
    have hin := of_decide_eq_true hw.1
    have hmem := rd_tbl hp dn (by omega)
    have hb := bnd_itr (tbl p) ds.length
    rw [List.length_cons, itr_at hp ds.length dn (by omega)] at hc ⊢
    obtain ⟨e1, e2⟩ := sumOf_plain hb _ 0 (by omega) (by omega) hc
    rw [e1, Int.zero_add] at hc ⊢
    obtain ⟨rk', r0, r1, r2, r3⟩ := rank_walk hp ds x hx0 (fun y hy => hx y (List.mem_cons_of_mem _ hy)) (by rw [es2]; exact hw.2) (e2 x hin)
    obtain ⟨P, p0, p1, p2, p3⟩ := add_pick hb (dn : Int) x ((tbl p).getD dn []) (tbl_rises hp _ hmem) hin hc
    refine ⟨P + rk', by omega, by omega, fun acc a0 a1 => ?_, ?_⟩
    · have hl : (signs ds).length = ds.length := by simp [signs]
      rw [es, rankP, s2.1, s1.2, hl, p2 acc a0 (by omega), ← es2, r2 _ (by omega) (by omega)]
      omega
    · rw [walkR, Int.toNat_natCast, p3 rk' r0 r1, r3]
end WalkV
namespace WalkV
abbrev sg (d : Nat) : ByteArray := ⟨#[UInt8.ofNat (48 + d)]⟩
abbrev cnt1 (a : ByteArray) (m d : Nat) : Int := rd (itr (tbl a) (row0 0) m) (d : Int)
def wtext (a : ByteArray) (m d : Nat) (rk : Int) : ByteArray := strOfNums (([(d : Int)] ++ walkR (tbl a) m d rk).map (48 + ·))
theorem dig1 (d : Nat) (hd : d < 10) : ∀ x ∈ [(d : Int)], 0 ≤ x ∧ x < 10 := by intro x hx; rw [List.mem_singleton] at hx; omega
theorem numberOf_yes {a : ByteArray} (hp : isPc a) (d m : Nat) (rk : Int) (hd : d < 10) (hm : m < 40) (h0 : 0 ≤ rk) (h1 : rk < cnt1 a m d) (h2 : cnt1 a m d ≤ 1000000000000000) : Ev (fun k => impl_NumberOfRank.f k a (sg d) ((m : Int) + 1) rk) (wtext a m d rk, true) := by
  unfold impl_NumberOfRank.f
  have hi := implCount_ev hp d m hd hm
  have ef : fewP (cnt1 a m d) = (cnt1 a m d, true) := by unfold fewP; rw [if_neg (by omega)]
  have ew : wrap64 (cnt1 a m d - 1) = cnt1 a m d - 1 := wrap_id (by omega) (by omega)
  have ei : (decide (0 ≤ rk) && decide (rk ≤ wrap64 (cnt1 a m d - 1))) = true := by rw [ew, decide_eq_true (p := 0 ≤ rk) (by omega), decide_eq_true (p := rk ≤ cnt1 a m d - 1) (by omega)]; rfl
  have em : wrap64 ((m : Int) + 1 - 1) = m := by rw [wrap_id (by omega) (by omega)]; omega
  rw [ef] at hi
  refine Ev.bind hi (Ev.yes (Ev.bindc (x := true) (by rw [in_eq, ei]) ?_))
  apply Ev.succ; simp only [impl_NumberOfRank.j0]
  refine Ev.no (Ev.pos (sign_size d) ?_)
  rw [sign_bt d hd, em]
  simp only [impl_digit.f, Option.bind_some, digit_sign d hd]
  exact _root_.Go.Proofs.YtffbfkfbeggdnaaGreatDoor.impl_l0 hp m d rk [(d : Int)] hd (by simp; omega) (dig1 d hd)
theorem numberOf_two (a s : ByteArray) (n rk : Int) (h1 : s.size ≤ 9223372036854775807) : ∃ r, Ev (fun k => impl_NumberOfRank.f k a s n rk) r ∧ Ev (fun k => spec_NumberOfRank.f k a s n rk) r ∧ (r.2 = true → ∃ d m : Nat, isPc a ∧ d < 10 ∧ s = sg d ∧ n = (m : Int) + 1 ∧ m < 40 ∧ 0 ≤ rk ∧ rk < cnt1 a m d ∧ cnt1 a m d ≤ 1000000000000000 ∧ r = (wtext a m d rk, true)) := by
  have fs : Ev (fun k => spec_NumberOfRank.j0 k a s n rk true) (⟨#[]⟩, false) := by
    apply Ev.succ; simp only [spec_NumberOfRank.j0]; exact Ev.yes (Ev.now _)
  have fi : Ev (fun k => impl_NumberOfRank.j0 k a s n rk true) (⟨#[]⟩, false) := by
    apply Ev.succ; simp only [impl_NumberOfRank.j0]; exact Ev.yes (Ev.now _)
  obtain ⟨⟨r, ok⟩, hs, hi, hok⟩ := countNumbers_two a s n h1
  cases ok with
  | false =>
    refine ⟨((⟨#[]⟩ : ByteArray), false), ?_, ?_, fun h => (by cases h)⟩
    · unfold impl_NumberOfRank.f; exact Ev.bind hi (Ev.no fi)
    · unfold spec_NumberOfRank.f; exact Ev.bind hs (Ev.no fs)
  | true =>
    obtain ⟨d, m, hp, hd, rfl, rfl, hm, b0, b1, hr⟩ := hok rfl
    dsimp only at b0 b1
    have ew : wrap64 (r - 1) = r - 1 := wrap_id (by omega) (by omega)
    have er : r = cnt1 a m d ∧ cnt1 a m d ≤ 1000000000000000 := by
      unfold fewP at hr
      by_cases c : rd (itr (tbl a) (row0 0) m) (d : Int) > 1000000000000000
      · rw [if_pos c] at hr; cases hr
      · rw [if_neg c] at hr; cases hr; exact ⟨rfl, by show rd _ _ ≤ _; omega⟩
    by_cases e1 : rk < 0
    · have ei : (decide (0 ≤ rk) && decide (rk ≤ wrap64 (r - 1))) = false := by rw [decide_eq_false (by omega)]; rfl
      refine ⟨((⟨#[]⟩ : ByteArray), false), ?_, ?_, fun h => (by cases h)⟩
      · unfold impl_NumberOfRank.f; exact Ev.bind hi (Ev.yes (Ev.bindc (x := false) (by rw [in_eq, ei]) fi))
      · unfold spec_NumberOfRank.f; exact Ev.bind hs (Ev.yes (Ev.pos e1 fs))
    · by_cases e2 : rk ≥ r
      · have ei : (decide (0 ≤ rk) && decide (rk ≤ wrap64 (r - 1))) = false := by rw [ew, decide_eq_false (p := rk ≤ r - 1) (by omega)]; simp
        refine ⟨((⟨#[]⟩ : ByteArray), false), ?_, ?_, fun h => (by cases h)⟩
        · unfold impl_NumberOfRank.f; exact Ev.bind hi (Ev.yes (Ev.bindc (x := false) (by rw [in_eq, ei]) fi))
        · unfold spec_NumberOfRank.f; exact Ev.bind hs (Ev.yes (Ev.neg e1 (by rw [decide_eq_true e2]; exact fs)))
      · have em : wrap64 ((m : Int) + 1 - 1) = m := by rw [wrap_id (by omega) (by omega)]; omega
        have em2 : wrap64 ((m : Int) + 1 - 2) = (m : Int) - 1 := by rw [wrap_id (by omega) (by omega)]; omega
        obtain ⟨q, hq, hq1, hq2⟩ := _root_.Go.Proofs.YtffbfkfbeggdnaaGreatDoor.spec_l0 hp m (by omega) m d rk (sg d) hd (Nat.le_refl _) (by show m + 1 ≤ 1000; omega)
        have eq : q = (wtext a m d rk, true) := by
          refine Prod.ext (bl_inj ?_) hq2
          unfold wtext
          rw [strOf_signs _ (by
            intro x hx
            rcases List.mem_append.1 hx with h | h
            · exact dig1 d hd x h
            · exact walkR_dig hp m d rk ⟨by omega, by omega⟩ x h), hq1]
          rfl
        refine ⟨(wtext a m d rk, true), numberOf_yes hp d m rk hd hm (by omega) (by omega) er.2, ?_, fun _ => ⟨d, m, hp, hd, rfl, rfl, hm, by omega, by omega, er.2, rfl⟩⟩
        unfold spec_NumberOfRank.f
        refine Ev.bind hs (Ev.yes (Ev.neg e1 ?_))
        rw [decide_eq_false e2]
        apply Ev.succ; simp only [spec_NumberOfRank.j0]
        refine Ev.no ?_
        rw [em, em2]
        refine Ev.bind (wkTable_ev hp m (by omega) 0) (Ev.pos (sign_size d) ?_)
        rw [sign_bt d hd, ← eq]
        exact hq
/-- The text's facts where the ranks' functions take it. -/
structure Walked (a s : ByteArray) (m d : Nat) : Prop where
  pc : isPc a
  dig : (bl s).all isDig = true
  walk : walkB a (bl s) = true
  len : (bl s).length = m + 1
  short : m < 40
  ten : d < 10
  head : ∀ h : 0 < (bl s).length, (bl s)[0].toNat = 48 + d
  few : cnt1 a m d ≤ 1000000000000000
theorem head_ex {a s : ByteArray} {m d : Nat} (W : Walked a s m d) : s.extract 0 1 = sg d := by
  apply bl_inj
  have hz : 0 < (bl s).length := by have := W.len; omega
  have hdd := W.head hz
  obtain ⟨c, r, hs⟩ := List.exists_cons_of_length_pos hz
  have h0c : (bl s)[0] = c := by simp [hs]
  rw [h0c] at hdd
  rw [bl_extract, List.drop_zero, hs]
  show [c] = [UInt8.ofNat (48 + d)]
  rw [← hdd]; simp
theorem rankOf_yes {a s : ByteArray} {m d : Nat} (W : Walked a s m d) (h1 : s.size ≤ 9223372036854775807) : Ev (fun k => impl_RankOfNumber.f k a s) (rankP (tbl a) (bl s) 0, true) := by
  have hl := W.len
  have hsz : s.size = (bl s).length := rfl
  have hc := W.few
  have hm := W.short
  have hdg : digsB (bl s) 1 40 = true := by unfold digsB; rw [W.dig, decide_eq_true (by omega), decide_eq_true (by omega)]; rfl
  have wi := impl_walk W.pc s h1
  rw [hdg, W.walk] at wi
  unfold impl_RankOfNumber.f
  refine Ev.bindc (by rw [isPiece_eq, pc_piece W.pc]) (Ev.yes (Ev.bind wi ?_))
  apply Ev.succ; simp only [impl_RankOfNumber.j0]
  refine Ev.no (Ev.pos (by omega) (Ev.pos (by omega) ?_))
  rw [head_ex W, show (s.size : Int) = (m : Int) + 1 by omega]
  refine Ev.bind (implCount_ev W.pc d m W.ten W.short) ?_
  unfold fewP; rw [if_neg (by show ¬ cnt1 a m d > _; omega)]
  obtain ⟨qi, _⟩ := both_l0 W.pc s (by omega) W.dig m 0 0 (by omega) (by rw [List.drop_zero]; exact W.walk)
  exact Ev.yes (by exact_mod_cast qi)
theorem isWalk_two (a s : ByteArray) (h1 : s.size ≤ 9223372036854775807) : ∃ r, Ev (fun k => impl_IsWalk.f k a s) r ∧ Ev (fun k => spec_IsWalk.f k a s) r ∧ (∀ m d : Nat, Walked a s m d → r = (true, true)) := by
  simp only [spec_IsWalk.f, impl_IsWalk.f]
  cases hp : pieceB (bl a) with
  | false => exact ⟨(false, false), Ev.bindc (by rw [isPiece_eq, hp]) (Ev.no (Ev.now _)), Ev.bindc (by rw [wkPiece_eq, hp]) (Ev.no (Ev.now _)), fun m d W => by rw [pc_piece W.pc] at hp; cases hp⟩
  | true =>
    refine ⟨(digsB (bl s) 1 40 && walkB a (bl s), true), Ev.bindc (by rw [isPiece_eq, hp]) (Ev.yes (Ev.bind (impl_walk (isPc_of hp) s h1) (Ev.now _))), Ev.bindc (by rw [wkPiece_eq, hp]) (Ev.yes (Ev.bind (spec_walk (isPc_of hp) s) (Ev.now _))), fun m d W => ?_⟩
    have hl := W.len
    have hm := W.short
    have hdg : digsB (bl s) 1 40 = true := by unfold digsB; rw [W.dig, decide_eq_true (by omega), decide_eq_true (by omega)]; rfl
    rw [hdg, W.walk]; rfl
theorem rankOf_two (a s : ByteArray) (h1 : s.size ≤ 9223372036854775807) : ∃ r, Ev (fun k => impl_RankOfNumber.f k a s) r ∧ Ev (fun k => spec_RankOfNumber.f k a s) r ∧ (r.2 = true → ∃ m d : Nat, Walked a s m d ∧ r = (rankP (tbl a) (bl s) 0, true)) := by
  have fs : Ev (fun k => spec_RankOfNumber.j0 k a s true) (0, false) := by
    apply Ev.succ; simp only [spec_RankOfNumber.j0]; exact Ev.yes (Ev.now _)
  have fi : Ev (fun k => impl_RankOfNumber.j0 k a s true) (0, false) := by
    apply Ev.succ; simp only [impl_RankOfNumber.j0]; exact Ev.yes (Ev.now _)
  unfold spec_RankOfNumber.f impl_RankOfNumber.f
  cases hp : pieceB (bl a) with
  | false => exact ⟨(0, false), Ev.bindc (by rw [isPiece_eq, hp]) (Ev.no fi), Ev.bindc (by rw [wkPiece_eq, hp]) (Ev.no fs), fun h => (by cases h)⟩
  | true =>
    have hpc := isPc_of hp
    have ws := spec_walk hpc s
    have wi := impl_walk hpc s h1
    cases hw : (digsB (bl s) 1 40 && walkB a (bl s)) with
    | false =>
      rw [hw] at ws wi
      exact ⟨(0, false), Ev.bindc (by rw [isPiece_eq, hp]) (Ev.yes (Ev.bind wi fi)), Ev.bindc (by rw [wkPiece_eq, hp]) (Ev.yes (Ev.bind ws fs)), fun h => (by cases h)⟩
    | true =>
      rw [hw] at ws wi
      rw [Bool.and_eq_true] at hw
      obtain ⟨hdg, hwk⟩ := hw
      unfold digsB at hdg
      simp only [Bool.and_eq_true, decide_eq_true_eq] at hdg
      obtain ⟨⟨hl1, hl40⟩, hd⟩ := hdg
      have hsz : s.size = (bl s).length := rfl
      have hz : 0 < (bl s).length := by omega
      have d0 := isDig_at hd 0 hz
      obtain ⟨d, hdd⟩ : ∃ d : Nat, (bl s)[0].toNat = 48 + d := ⟨(bl s)[0].toNat - 48, by omega⟩
      have hd10 : d < 10 := by omega
      obtain ⟨m, hm⟩ : ∃ m : Nat, (bl s).length = m + 1 := ⟨(bl s).length - 1, by omega⟩
      have hb0 : bt s 0 = 48 + (d : Int) := by
        have := bt_nat s 0 hz
        rw [hdd] at this
        exact_mod_cast this
      obtain ⟨qi, qs⟩ := both_l0 hpc s hl40 hd m 0 0 (by omega) (by rw [List.drop_zero]; exact hwk)
      rw [hm, show m + 1 - 1 = m by omega] at qs
      have em : wrap64 ((s.size : Int) - 1) = m := by rw [wrap_id (by omega) (by omega)]; omega
      have hr := itr_len (tbl_shape hpc).1 (row0_len 0) m
      have e2 : rd_L5 (rowsOf (tbl a) (row0 0) m) (m : Int) = itr (tbl a) (row0 0) m := rowsOf_at _ _ _ _ (Nat.le_refl _)
      have hs : ∀ r, Ev (fun k => if rd (itr (tbl a) (row0 0) m) d > 1000000000000000 then some (0, false) else spec_RankOfNumber.l0 k a s (rowsOf (tbl a) (row0 0) m) 0 1) r → Ev (fun k => spec_RankOfNumber.j0 k a s (!true)) r := by
        intro r h
        apply Ev.succ; simp only [spec_RankOfNumber.j0]
        refine Ev.no ?_
        rw [em, hb0, digit_sign d hd10]
        refine Ev.bind (wkTable_ev hpc m (by omega) 0) ?_
        rw [e2]
        exact (Ev.pos (by omega) (Ev.pos (by rw [rowsOf_len]; omega) (Ev.pos (by omega) (Ev.pos (by omega) (Ev.pos (by omega) h)))))
      by_cases c : rd (itr (tbl a) (row0 0) m) d > 1000000000000000
      · have hex : s.extract 0 1 = sg d := by
          apply bl_inj
          obtain ⟨c, r, hs⟩ := List.exists_cons_of_length_pos hz
          have h0c : (bl s)[0] = c := by simp [hs]
          rw [h0c] at hdd
          rw [bl_extract, List.drop_zero, hs]
          show [c] = [UInt8.ofNat (48 + d)]
          rw [← hdd]; simp
        refine ⟨(0, false), Ev.bindc (by rw [isPiece_eq, hp]) (Ev.yes (Ev.bind wi ?_)), Ev.bindc (by rw [wkPiece_eq, hp]) (Ev.yes (Ev.bind ws (hs _ (Ev.pos c (Ev.now _))))), fun h => (by cases h)⟩
        apply Ev.succ; simp only [impl_RankOfNumber.j0]
        refine Ev.no (Ev.pos (by omega) (Ev.pos (by omega) ?_))
        rw [hex, show (s.size : Int) = (m : Int) + 1 by omega]
        refine Ev.bind (implCount_ev hpc d m hd10 (by omega)) ?_
        unfold fewP; rw [if_pos c]; exact Ev.no (Ev.now _)
      · have W : Walked a s m d := ⟨hpc, hd, hwk, hm, by omega, hd10, fun _ => hdd, by show rd _ _ ≤ _; omega⟩
        have ri := rankOf_yes W h1
        unfold impl_RankOfNumber.f at ri
        exact ⟨_, ri, Ev.bindc (by rw [wkPiece_eq, hp]) (Ev.yes (Ev.bind ws (hs _ (Ev.neg c (by exact_mod_cast qs))))), fun _ => ⟨m, d, W, rfl⟩⟩
/-- The number of a rank is a walk of that rank. -/
theorem wtext_walked {a : ByteArray} (hp : isPc a) (d m : Nat) (rk : Int) (hd : d < 10) (hm : m < 40) (h0 : 0 ≤ rk) (h1 : rk < cnt1 a m d) (h2 : cnt1 a m d ≤ 1000000000000000) : Walked a (wtext a m d rk) m d ∧ rankP (tbl a) (bl (wtext a m d rk)) 0 = rk ∧ (wtext a m d rk).size = m + 1 := by
  have hx : ∀ x ∈ [(d : Int)] ++ walkR (tbl a) m d rk, 0 ≤ x ∧ x < 10 := by
    intro x hx
    rcases List.mem_append.1 hx with h | h
    · exact dig1 d hd x h
    · exact walkR_dig hp m d rk ⟨by omega, by omega⟩ x h
  have eb : bl (wtext a m d rk) = signs ((d : Int) :: walkR (tbl a) m d rk) := by unfold wtext; rw [strOf_signs _ hx]; rfl
  have el : (bl (wtext a m d rk)).length = m + 1 := by rw [eb]; simp [signs, walkR_len]
  obtain ⟨w1, w2⟩ := walk_rank hp m (d : Int) rk ⟨by omega, by omega⟩ h0 h1 h2
  refine ⟨⟨hp, ?_, by rw [eb]; exact w1, el, hm, hd, fun h => ?_, h2⟩, ?_, el⟩
  · rw [eb, List.all_eq_true]
    intro c hc
    unfold signs at hc
    obtain ⟨x, hx', rfl⟩ := List.mem_map.1 hc
    have := hx x (by simpa using hx')
    unfold isDig
    rw [UInt8.toNat_ofNat', Bool.and_eq_true, decide_eq_true_eq, decide_eq_true_eq]; omega
  · have : (bl (wtext a m d rk))[0]'h = UInt8.ofNat (48 + d) := by simp [eb, signs]
    rw [this, UInt8.toNat_ofNat']; omega
  · rw [eb, w2 0 (by omega) (by omega)]; omega
/-- A walk is the number of its rank. -/
theorem walked_wtext {a s : ByteArray} {m d : Nat} (W : Walked a s m d) : 0 ≤ rankP (tbl a) (bl s) 0 ∧ rankP (tbl a) (bl s) 0 < cnt1 a m d ∧ wtext a m d (rankP (tbl a) (bl s) 0) = s := by
  have hl := W.len
  have hz : 0 < (bl s).length := by omega
  obtain ⟨c, r, hs⟩ := List.exists_cons_of_length_pos hz
  have hh := W.head hz
  have h0c : (bl s)[0] = c := by simp [hs]
  rw [h0c] at hh
  have hd := W.ten
  have hdg : ∀ x ∈ r, 48 ≤ x.toNat ∧ x.toNat ≤ 57 := by
    intro x hx
    have := List.all_eq_true.1 W.dig x (by rw [hs]; exact List.mem_cons_of_mem _ hx)
    unfold isDig at this
    simpa only [Bool.and_eq_true, decide_eq_true_eq] using this
  have hlr : r.length = m := by rw [hs] at hl; simpa using hl
  have es : signs ((d : Int) :: r.map fun x => (x.toNat : Int) - 48) = bl s := by
    rw [hs]
    simp only [signs, List.map_cons, List.map_map]
    congr 1
    · rw [show 48 + ((d : Nat) : Int).toNat = c.toNat by omega]; simp
    · conv => rhs; rw [← List.map_id r]
      apply List.map_congr_left
      intro x hx
      have := hdg x hx
      show UInt8.ofNat (48 + ((x.toNat : Int) - 48).toNat) = x
      rw [show 48 + ((x.toNat : Int) - 48).toNat = x.toNat by omega]; simp
  have hx : ∀ x ∈ (r.map fun x => (x.toNat : Int) - 48), 0 ≤ x ∧ x < 10 := by
    intro x hx
    obtain ⟨y, hy, rfl⟩ := List.mem_map.1 hx
    have := hdg y hy
    omega
  have hw := W.walk
  rw [← es] at hw
  have hf := W.few
  obtain ⟨rk, r0, r1, r2, r3⟩ := rank_walk W.pc (r.map fun x => (x.toNat : Int) - 48) (d : Int) ⟨by omega, by omega⟩ hx hw (by rw [List.length_map, hlr]; exact hf)
  rw [List.length_map, hlr] at r1 r3
  have e := r2 0 (by omega) (by have : rk < cnt1 a m d := r1; omega)
  rw [es, Int.zero_add] at e
  rw [e]
  refine ⟨r0, r1, bl_inj ?_⟩
  unfold wtext
  rw [strOf_signs _ (by
    intro x hx'
    rcases List.mem_append.1 hx' with h | h
    · exact dig1 d hd x h
    · exact walkR_dig W.pc m d rk ⟨by omega, by omega⟩ x h), r3]
  exact es
end WalkV
end Go.Proofs.YtffbfkfbeggdnaaGreatDoor
namespace Go.Proofs.YtffbfkfbeggdnaaGreatDoor
open Go.RowKit Go.Proofs.YtffbfkfbeggdnaaGreatDoor.P Go.Proofs.YtffbfkfbeggdnaaGreatDoorW.PrintWords
set_option linter.unusedSimpArgs false
set_option linter.unusedVariables false
/-! What is drawn from a code: bytes, picks, members of lists. -/
theorem wraps_63 (n : Int) (h0 : 0 ≤ n) (h1 : n < 2 ^ 63) : IntKind.u64.wrap n = n := by rw [IntKind.wrap_u64]; omega
theorem low_bits (z : Int) : 0 ≤ Go.bits .and .u64 (IntKind.u64.wrap z / 1099511627776) 255 ∧ Go.bits .and .u64 (IntKind.u64.wrap z / 1099511627776) 255 ≤ 255 := by
  have hz : 0 ≤ IntKind.u64.wrap z ∧ IntKind.u64.wrap z < 18446744073709551616 := by rw [IntKind.wrap_u64]; omega
  generalize IntKind.u64.wrap z = y at hz
  have h := bits_mask .u64 63 (by decide) wraps_63 8 (by decide) (y / 1099511627776) (by omega) (by omega)
  have e : ((2 : Int) ^ 8 - 1) = 255 := by decide
  have e2 : ((2 : Int) ^ 8) = 256 := by decide
  rw [e, e2] at h
  rw [h]
  omega
section
variable (l : List Int) (hl : ∀ x ∈ l, 0 ≤ x ∧ x ≤ 255)
include hl
theorem nx_ok (p s : Int) (B : Nat) (h0 : 0 ≤ p) (h1 : p ≤ B) (hB : B ≤ 1000000000) : ∃ b p' s', spec_l1Cur_next.f l p s = some (b, p', s') ∧ (0 ≤ b ∧ b ≤ 255) ∧ 0 ≤ p' ∧ p' ≤ (B + 1 : Nat) := by
  unfold spec_l1Cur_next.f
  have ew : wrap64 (p + 1) = p + 1 := wrap_id (by omega) (by omega)
  rw [ew]
  have hb : ∀ z : Int, 0 ≤ wrap64 (Go.bits .and .u64 (IntKind.u64.wrap z / 1099511627776) 255) ∧ wrap64 (Go.bits .and .u64 (IntKind.u64.wrap z / 1099511627776) 255) ≤ 255 := fun z => by
    have := low_bits z
    rw [wrap_id (by omega) (by omega)]
    exact this
  by_cases c1 : p < (l.length : Int)
  · rw [if_pos c1, if_pos h0]
    have hr : 0 ≤ wrap64 (rd l p) ∧ wrap64 (rd l p) ≤ 255 := by
      obtain ⟨i, rfl⟩ := Int.eq_ofNat_of_zero_le h0
      have hi : i < l.length := by omega
      rw [rd_nat l i hi]
      have := hl _ (List.getElem_mem hi)
      rw [wrap_id (by omega) (by omega)]
      exact this
    by_cases c2 : p + 1 ≤ (l.length : Int)
    · rw [if_pos c2]
      exact ⟨_, _, _, rfl, hr, by omega, by omega⟩
    · rw [if_neg c2]
      exact ⟨_, _, _, rfl, hb _, by omega, by omega⟩
  · rw [if_neg c1]
    by_cases c2 : p + 1 ≤ (l.length : Int)
    · rw [if_pos c2]
      exact ⟨_, _, _, rfl, by omega, by omega, by omega⟩
    · rw [if_neg c2]
      exact ⟨_, _, _, rfl, hb _, by omega, by omega⟩
theorem pick_ok (p s : Int) (B : Nat) (h0 : 0 ≤ p) (h1 : p ≤ B) (hB : B ≤ 1000000000) (n : Int) (hn : 1 ≤ n) (hn2 : n ≤ 200) : ∃ r p' s', spec_l1Cur_pick.f l p s n = some (r, p', s') ∧ (0 ≤ r ∧ r < n) ∧ 0 ≤ p' ∧ p' ≤ (B + 1 : Nat) := by
  unfold spec_l1Cur_pick.f
  by_cases c : n ≤ 1
  · rw [if_pos c]
    exact ⟨_, _, _, rfl, by omega, h0, by omega⟩
  · obtain ⟨b, p', s', e, hb, hp⟩ := nx_ok l hl p s B h0 h1 hB
    rw [if_neg c, e]
    simp only [Option.bind_some]
    rw [if_neg (by omega), if_neg (by omega)]
    refine ⟨_, _, _, rfl, ?_, hp⟩
    rw [Int.tmod_eq_emod_of_nonneg hb.1]
    exact ⟨Int.emod_nonneg _ (by omega), Int.emod_lt_of_pos _ (by omega)⟩
theorem one_ok' (p s : Int) (B : Nat) (h0 : 0 ≤ p) (h1 : p ≤ B) (hB : B ≤ 1000000000) (n : Int) (hn : 1 ≤ n) (hn2 : n ≤ 200) : ∃ r p' s', spec_l1Cur_one.f l p s n = some (r, p', s') ∧ 0 ≤ p' ∧ p' ≤ (B + 1 : Nat) := by
  unfold spec_l1Cur_one.f
  obtain ⟨b, p', s', e, hb, hp⟩ := pick_ok l hl p s B h0 h1 hB n hn hn2
  rw [e]
  exact ⟨_, _, _, rfl, hp⟩
theorem of_ok (p s : Int) (B : Nat) (h0 : 0 ≤ p) (h1 : p ≤ B) (hB : B ≤ 1000000000) (ls : List ByteArray) (hn : 1 ≤ ls.length) (hn2 : ls.length ≤ 200) : ∃ r p' s', spec_l1Cur_of.f l p s ls = some (r, p', s') ∧ r ∈ ls ∧ 0 ≤ p' ∧ p' ≤ (B + 1 : Nat) := by
  unfold spec_l1Cur_of.f
  obtain ⟨b, p', s', e, hb, hp⟩ := pick_ok l hl p s B h0 h1 hB (ls.length : Int) (by omega) (by omega)
  rw [e]
  simp only [Option.bind_some]
  rw [if_pos hb.1, if_pos hb.2]
  refine ⟨_, _, _, rfl, ?_, hp⟩
  obtain ⟨i, rfl⟩ := Int.eq_ofNat_of_zero_le hb.1
  have hi : i < ls.length := by omega
  have : rdOf ByteArray.empty ls (i : Int) = ls[i] := by unfold rdOf; simp [List.getD, hi]
  rw [this]
  exact List.getElem_mem hi
theorem among_ok (p s : Int) (B : Nat) (h0 : 0 ≤ p) (h1 : p ≤ B) (hB : B ≤ 1000000000) (ls : List Int) (hn : 1 ≤ ls.length) (hn2 : ls.length ≤ 200) : ∃ r p' s', spec_l1Cur_among.f l p s ls = some (r, p', s') ∧ r ∈ ls ∧ 0 ≤ p' ∧ p' ≤ (B + 1 : Nat) := by
  unfold spec_l1Cur_among.f
  obtain ⟨b, p', s', e, hb, hp⟩ := pick_ok l hl p s B h0 h1 hB (ls.length : Int) (by omega) (by omega)
  rw [e]
  simp only [Option.bind_some]
  rw [if_pos hb.1, if_pos hb.2]
  refine ⟨_, _, _, rfl, ?_, hp⟩
  obtain ⟨i, rfl⟩ := Int.eq_ofNat_of_zero_le hb.1
  have hi : i < ls.length := by omega
  rw [rd_nat ls i hi]
  exact List.getElem_mem hi
end
namespace WalkV
theorem num_dig (n : Nat) (h : n < 10) : Ev (fun k => spec_l1Num.f k (n : Int)) (strOfNums [48 + (n : Int)]) := by
  apply Ev.succ
  simp only [spec_l1Num.f]
  refine Ev.pos (by omega) (Ev.const ?_)
  rw [wrap_id (by omega) (by omega), Int.emod_eq_of_lt (by omega) (by omega)]
section
variable (l : List Int) (hl : ∀ x ∈ l, 0 ≤ x ∧ x ≤ 255)
include hl
theorem piece_ok (p s : Int) (B : Nat) (h0 : 0 ≤ p) (h1 : p ≤ B) (hB : B ≤ 1000000) : ∃ t p' s', spec_l1Cur_piece.f l p s = some (t, p', s') ∧ t.size ≤ 100 ∧ 0 ≤ p' ∧ p' ≤ (B + 2 : Nat) := by
  obtain ⟨b, p1, s1, e1, q1, q2⟩ := one_ok' l hl p s B h0 h1 (by omega) 16 (by omega) (by omega)
  unfold spec_l1Cur_piece.f
  rw [e1]
  simp only [Option.bind_some]
  cases b with
  | false =>
    obtain ⟨t, p2, s2, e2, hm, q3, q4⟩ := of_ok l hl p1 s1 (B + 1) q1 q2 (by omega) [(⟨#[110]⟩ : ByteArray), (⟨#[110]⟩ : ByteArray), (⟨#[107]⟩ : ByteArray), (⟨#[114]⟩ : ByteArray), (⟨#[98]⟩ : ByteArray)] (by decide) (by decide)
    refine ⟨t, p2, s2, by rw [if_neg (by simp), e2]; rfl, ?_, q3, by omega⟩
    simp only [List.mem_cons, List.not_mem_nil, or_false] at hm
    rcases hm with rfl | rfl | rfl | rfl | rfl <;> decide
  | true =>
    obtain ⟨t, p2, s2, e2, hm, q3, q4⟩ := of_ok l hl p1 s1 (B + 1) q1 q2 (by omega) [(⟨#[]⟩ : ByteArray), (⟨#[113]⟩ : ByteArray), (⟨#[110, 107]⟩ : ByteArray), (⟨#[75]⟩ : ByteArray)] (by decide) (by decide)
    refine ⟨t, p2, s2, by rw [if_pos rfl, e2]; rfl, ?_, q3, by omega⟩
    simp only [List.mem_cons, List.not_mem_nil, or_false] at hm
    rcases hm with rfl | rfl | rfl | rfl <;> decide
theorem digit_ok (p s : Int) (B : Nat) (h0 : 0 ≤ p) (h1 : p ≤ B) (hB : B ≤ 1000000) : ∃ t p' s', Ev (fun k => spec_l1Cur_digit.f k l p s) (t, p', s') ∧ t.size ≤ 100 ∧ 0 ≤ p' ∧ p' ≤ (B + 2 : Nat) := by
  obtain ⟨b, p1, s1, e1, q1, q2⟩ := one_ok' l hl p s B h0 h1 (by omega) 16 (by omega) (by omega)
  unfold spec_l1Cur_digit.f
  cases b with
  | false =>
    obtain ⟨v, p2, s2, e2, hv, q3, q4⟩ := pick_ok l hl p1 s1 (B + 1) q1 q2 (by omega) 10 (by omega) (by omega)
    obtain ⟨m, rfl⟩ := Int.eq_ofNat_of_zero_le hv.1
    exact ⟨_, p2, s2, Ev.bindc e1 (Ev.neg (by simp) (Ev.bindc e2 (Ev.bind (num_dig m (by omega)) (Ev.now _)))), by show 1 ≤ 100; omega, q3, by omega⟩
  | true =>
    obtain ⟨t, p2, s2, e2, hm, q3, q4⟩ := of_ok l hl p1 s1 (B + 1) q1 q2 (by omega) [(⟨#[]⟩ : ByteArray), (⟨#[120]⟩ : ByteArray), (⟨#[49, 50]⟩ : ByteArray), (⟨#[35]⟩ : ByteArray)] (by decide) (by decide)
    refine ⟨t, p2, s2, Ev.bindc e1 (Ev.pos rfl (Ev.bindc e2 (Ev.now _))), ?_, q3, by omega⟩
    simp only [List.mem_cons, List.not_mem_nil, or_false] at hm
    rcases hm with rfl | rfl | rfl | rfl <;> decide
theorem walk_l0 {a : ByteArray} (hp : isPc a) : ∀ (n : Nat) (x : ByteArray) (d : Nat) (p s : Int) (B : Nat), d < 10 → 0 < x.size → bt x ((x.size : Int) - 1) = 48 + (d : Int) → 0 ≤ p → p ≤ B → B + n ≤ 1000 → x.size + n ≤ 100 →
    ∃ t p' s', Ev (fun k => spec_l1Cur_walk.l0 k a x (n : Int) l p s) (t, p', s') ∧ t.size ≤ 100 ∧ 0 ≤ p' ∧ p' ≤ (B + n : Nat)
  | 0, x, d, p, s, B, hd, hz, hb, h0, h1, hB, hx => by
    refine ⟨x, p, s, ?_, by omega, h0, by omega⟩
    apply Ev.succ; simp only [spec_l1Cur_walk.l0]
    exact Ev.neg (by omega) (Ev.now _)
  | n + 1, x, d, p, s, B, hd, hz, hb0, h0, h1, hB, hx => by
    have hb := Aside0.mk hb0
    clear hb0
    have ew : wrap64 ((x.size : Int) - 1) = (x.size : Int) - 1 := wrap_id (by omega) (by omega)
    have ew2 : wrap64 (((n + 1 : Nat) : Int) - 1) = n := by rw [wrap_id (by omega) (by omega)]; omega
    obtain ⟨h8, hx8⟩ := (tbl_shape hp).2 _ (rd_tbl hp d hd)
    have hnx := wkNext_ev hp d hd
    generalize (tbl a).getD d [] = es at h8 hx8 hnx
    by_cases c : es.length = 0
    · refine ⟨x, p, s, ?_, by omega, h0, by omega⟩
      apply Ev.succ; simp only [spec_l1Cur_walk.l0]
      rw [ew, hb.out]
      refine Ev.pos (by omega) (Ev.pos (by omega) (Ev.pos (by omega) (Ev.bind hnx (Ev.pos ?_ (Ev.now _)))))
      rw [bl_toList, List.eq_nil_of_length_eq_zero c]; rfl
    · have hsz : (digsOf es).size = es.length := digsOf_len _
      obtain ⟨v, p2, s2, e2, hv, q3, q4⟩ := pick_ok l hl p s B h0 h1 (by omega) ((digsOf es).size : Int) (by omega) (by omega)
      obtain ⟨j, rfl⟩ := Int.eq_ofNat_of_zero_le hv.1
      have hj : j < es.length := by omega
      have t1 : ((j : Int) + 1).toNat = j + 1 := by omega
      have t2 : (0 : Int) ≤ (j : Int) := by omega
      have t3 : (j : Int) ≤ (j : Int) + 1 := by omega
      have t4 : (j : Int) + 1 ≤ ((digsOf es).size : Int) := by omega
      have t5 : x.size + 1 ≤ 9223372036854775807 := by omega
      have ewj : wrap64 ((j : Int) + 1) = (j : Int) + 1 := wrap_id (by omega) (by omega)
      have hej := hx8 _ (List.getElem_mem hj)
      obtain ⟨e, he⟩ : ∃ e : Nat, es[j] = e := ⟨_, (Int.toNat_of_nonneg hej.1).symm⟩
      have hex : (digsOf es).extract j (j + 1) = ⟨#[UInt8.ofNat (48 + e)]⟩ := by
        apply bl_inj
        rw [bl_extract]
        have e1 : bl (digsOf es) = es.map fun e => UInt8.ofNat (48 + e.toNat) := by simp [digsOf, bl]
        rw [e1, ← List.map_drop, List.drop_eq_getElem_cons hj, he, Nat.add_sub_cancel_left]
        rfl
      have hs1 : (⟨#[UInt8.ofNat (48 + e)]⟩ : ByteArray).size = 1 := rfl
      have hs2 : (x ++ (⟨#[UInt8.ofNat (48 + e)]⟩ : ByteArray)).size = x.size + 1 := by rw [ByteArray.size_append, hs1]
      have hbt : bt (x ++ (⟨#[UInt8.ofNat (48 + e)]⟩ : ByteArray)) (((x ++ (⟨#[UInt8.ofNat (48 + e)]⟩ : ByteArray)).size : Int) - 1) = 48 + (e : Int) := by
        have hl2 : (bl x).length = x.size := rfl
        have hblx : bl (x ++ (⟨#[UInt8.ofNat (48 + e)]⟩ : ByteArray)) = bl x ++ [UInt8.ofNat (48 + e)] := bl_append _ _
        rw [hs2, show (((x.size + 1 : Nat) : Int) - 1) = ((x.size : Nat) : Int) by omega, bt_nat _ _ (by rw [hblx]; simp; omega)]
        have : (bl (x ++ (⟨#[UInt8.ofNat (48 + e)]⟩ : ByteArray)))[x.size]'(by rw [hblx]; simp; omega) = UInt8.ofNat (48 + e) := by
          simp only [hblx]
          rw [List.getElem_append_right (by omega)]
          simp [hl2]
        rw [this, UInt8.toNat_ofNat']; omega
      have hbt' := Aside0.mk hbt
      clear hbt
      obtain ⟨t, p3, s3, e3, ht, q5, q6⟩ := walk_l0 hp n (x ++ (⟨#[UInt8.ofNat (48 + e)]⟩ : ByteArray)) e p2 s2 (B + 1) (by omega) (by omega) hbt'.out q3 q4 (by omega) (by omega)
      refine ⟨t, p3, s3, ?_, ht, q5, by omega⟩
      apply Ev.succ; simp only [spec_l1Cur_walk.l0]
      rw [ew, hb.out]
      refine Ev.pos (by omega) (Ev.pos (by omega) (Ev.pos (by omega) (Ev.bind hnx (Ev.neg ?_ (Ev.bindc e2 ?_)))))
      · intro h
        have := congrArg List.length h
        rw [bl_toList] at this
        have h3 : (bl (digsOf es)).length = 0 := this
        exact absurd (hsz.symm.trans h3) c
      · simp only [ewj, Int.toNat_natCast]
        rw [t1, hex, ew2]
        exact Ev.pos t2 (Ev.pos t3 (Ev.pos t4 (Ev.pos (by rw [hs1]; exact t5) e3)))
theorem walk_ok (a : ByteArray) (p s : Int) (B : Nat) (h0 : 0 ≤ p) (h1 : p ≤ B) (hB : B ≤ 900) : ∃ t p' s', Ev (fun k => spec_l1Cur_walk.f k l p s a) (t, p', s') ∧ t.size ≤ 100 ∧ 0 ≤ p' ∧ p' ≤ (B + 20 : Nat) := by
  have other : ∀ (p s : Int) (B : Nat), 0 ≤ p → p ≤ B → B ≤ 1000 → ∃ t p' s', Ev (fun k => spec_l1Cur_walk.j0 k a true l p s) (t, p', s') ∧ t.size ≤ 100 ∧ 0 ≤ p' ∧ p' ≤ (B + 1 : Nat) := by
    intro p s B h0 h1 hB
    obtain ⟨t, p2, s2, e2, hm, q3, q4⟩ := of_ok l hl p s B h0 h1 (by omega) [(⟨#[]⟩ : ByteArray), (⟨#[120]⟩ : ByteArray), (⟨#[49, 50, 51]⟩ : ByteArray), (⟨#[49, 49, 49, 49, 49, 49, 49, 49, 49, 49, 49, 49, 49, 49, 49, 49, 49, 49, 49, 49, 49, 49, 49, 49, 49, 49, 49, 49, 49, 49, 49, 49, 49, 49, 49, 49, 49, 49, 49, 49]⟩ : ByteArray), (⟨#[49, 54, 49, 54, 49, 54, 49, 54, 49, 54, 49, 54, 49, 54, 49, 54, 49, 54, 49, 54, 49, 54, 49, 54, 49, 54, 49, 54, 49, 54, 49, 54, 49, 54, 49, 54, 49, 54, 49, 54, 49]⟩ : ByteArray), (⟨#[53]⟩ : ByteArray)] (by decide) (by decide)
    refine ⟨t, p2, s2, ?_, ?_, q3, by omega⟩
    · apply Ev.succ; simp only [spec_l1Cur_walk.j0]
      exact Ev.yes (Ev.bindc e2 (Ev.now _))
    · simp only [List.mem_cons, List.not_mem_nil, or_false] at hm
      rcases hm with rfl | rfl | rfl | rfl | rfl | rfl <;> decide
  unfold spec_l1Cur_walk.f
  cases hp : pieceB (bl a) with
  | false =>
    obtain ⟨t, p2, s2, e, q0, q1, q2⟩ := other p s B h0 h1 (by omega)
    exact ⟨t, p2, s2, Ev.bindc (by rw [wkPiece_eq, hp]) (Ev.no e), q0, q1, by omega⟩
  | true =>
    obtain ⟨b, p1, s1, e1, q1, q2⟩ := one_ok' l hl p s B h0 h1 (by omega) 14 (by omega) (by omega)
    cases b with
    | true =>
      obtain ⟨t, p2, s2, e, z0, z1, z2⟩ := other p1 s1 (B + 1) q1 q2 (by omega)
      exact ⟨t, p2, s2, Ev.bindc (by rw [wkPiece_eq, hp]) (Ev.yes (Ev.bindc e1 e)), z0, z1, by omega⟩
    | false =>
      obtain ⟨v, p2, s2, e2, hv, q3, q4⟩ := pick_ok l hl p1 s1 (B + 1) q1 q2 (by omega) 10 (by omega) (by omega)
      obtain ⟨m, rfl⟩ := Int.eq_ofNat_of_zero_le hv.1
      obtain ⟨c, p3, s3, e3, hc, q5, q6⟩ := pick_ok l hl p2 s2 (B + 2) q3 q4 (by omega) 8 (by omega) (by omega)
      obtain ⟨n, rfl⟩ := Int.eq_ofNat_of_zero_le hc.1
      have hs1 : (strOfNums [48 + (m : Int)]).size = 1 := rfl
      have hbt : bt (strOfNums [48 + (m : Int)]) (((strOfNums [48 + (m : Int)]).size : Int) - 1) = 48 + (m : Int) := by
        rw [hs1]
        have : ∀ m : Fin 10, bt (strOfNums [48 + (m.val : Int)]) (((1 : Nat) : Int) - 1) = 48 + (m.val : Int) := by decide
        exact this ⟨m, by omega⟩
      obtain ⟨t, p4, s4, e4, ht, q7, q8⟩ := walk_l0 l hl (isPc_of hp) n (strOfNums [48 + (m : Int)]) m p3 s3 (B + 3) (by omega) (by omega) hbt q5 q6 (by omega) (by omega)
      refine ⟨t, p4, s4, Ev.bindc (by rw [wkPiece_eq, hp]) (Ev.yes (Ev.bindc e1 (Ev.succ ?_))), ht, q7, by omega⟩
      simp only [spec_l1Cur_walk.j0]
      exact Ev.neg (by simp) (Ev.bindc e2 (Ev.bind (num_dig m (by omega)) (Ev.bindc e3 e4)))
theorem drawNumbers_ok : ∃ a s n, Ev (fun k => spec_DrawCountNumbers.f k l) (a, s, n) ∧ s.size ≤ 100 ∧ n ≤ 41 := by
  obtain ⟨t, p1, s1, e1, z1, q1, q2⟩ := piece_ok l hl 0 0 0 (by omega) (by omega) (by omega)
  obtain ⟨u, p2, s2, e2, z2, q3, q4⟩ := digit_ok l hl p1 s1 2 q1 q2 (by omega)
  obtain ⟨v, p3, s3, e3, hm, q5, q6⟩ := among_ok l hl p2 s2 4 q3 q4 (by omega) [1, 2, 3, 4, 7, 10, 20, 40, 41, 0, (-1)] (by decide) (by decide)
  refine ⟨t, u, v, ?_, z2, ?_⟩
  · unfold spec_DrawCountNumbers.f spec_DrawCountNumbers.g
    exact Ev.bind (Ev.bindc e1 (Ev.bind e2 (Ev.bindc e3 (Ev.now _)))) (Ev.now _)
  · simp only [List.mem_cons, List.not_mem_nil, or_false] at hm; omega
theorem drawRank_ok : ∃ a s n rk, Ev (fun k => spec_DrawNumberOfRank.f k l) (a, s, n, rk) ∧ s.size ≤ 100 := by
  obtain ⟨t, p1, s1, e1, z1, q1, q2⟩ := piece_ok l hl 0 0 0 (by omega) (by omega) (by omega)
  obtain ⟨u, p2, s2, e2, z2, q3, q4⟩ := digit_ok l hl p1 s1 2 q1 q2 (by omega)
  obtain ⟨v, p3, s3, e3, hm, q5, q6⟩ := among_ok l hl p2 s2 4 q3 q4 (by omega) [1, 2, 3, 4, 7, 10, 20, 40, 0] (by decide) (by decide)
  obtain ⟨w, p4, s4, e4, hm4, q7, q8⟩ := among_ok l hl p3 s3 5 q5 q6 (by omega) [0, 1, 2, 5, 12, 100, 100000, (-1), 4611686018427387904] (by decide) (by decide)
  refine ⟨t, u, v, w, ?_, z2⟩
  unfold spec_DrawNumberOfRank.f spec_DrawNumberOfRank.g
  exact Ev.bind (Ev.bindc e1 (Ev.bind e2 (Ev.bindc e3 (Ev.bindc e4 (Ev.now _))))) (Ev.now _)
theorem drawBetween_ok : ∃ a s t n, Ev (fun k => spec_DrawCountBetween.f k l) (a, s, t, n) ∧ s.size ≤ 100 ∧ t.size ≤ 100 := by
  obtain ⟨t, p1, s1, e1, z1, q1, q2⟩ := piece_ok l hl 0 0 0 (by omega) (by omega) (by omega)
  obtain ⟨u, p2, s2, e2, z2, q3, q4⟩ := digit_ok l hl p1 s1 2 q1 q2 (by omega)
  obtain ⟨u', p2', s2', e2', z2', q3', q4'⟩ := digit_ok l hl p2 s2 4 q3 q4 (by omega)
  obtain ⟨v, p3, s3, e3, hm, q5, q6⟩ := among_ok l hl p2' s2' 6 q3' q4' (by omega) [0, 1, 2, 3, 4, 7, 10, 39, 40, (-1)] (by decide) (by decide)
  refine ⟨t, u, u', v, ?_, z2, z2'⟩
  unfold spec_DrawCountBetween.f spec_DrawCountBetween.g
  exact Ev.bind (Ev.bindc e1 (Ev.bind e2 (Ev.bind e2' (Ev.bindc e3 (Ev.now _))))) (Ev.now _)
theorem drawRankOf_ok : ∃ a s, Ev (fun k => spec_DrawRankOfNumber.f k l) (a, s) ∧ s.size ≤ 100 := by
  obtain ⟨t, p1, s1, e1, z1, q1, q2⟩ := piece_ok l hl 0 0 0 (by omega) (by omega) (by omega)
  obtain ⟨u, p2, s2, e2, z2, q3, q4⟩ := walk_ok l hl t p1 s1 2 q1 q2 (by omega)
  obtain ⟨b, p3, s3, e3, q5, q6⟩ := one_ok' l hl p2 s2 22 q3 q4 (by omega) 3 (by omega) (by omega)
  obtain ⟨t', p4, s4, e4, z4, q7, q8⟩ := piece_ok l hl p3 s3 23 q5 q6 (by omega)
  cases b with
  | true =>
    refine ⟨t', u, ?_, z2⟩
    unfold spec_DrawRankOfNumber.f spec_DrawIsWalk.f spec_DrawIsWalk.g
    exact Ev.bind (Ev.bind (Ev.bindc e1 (Ev.bind e2 (Ev.bindc e3 (Ev.pos rfl (Ev.bindc e4 (Ev.now _)))))) (Ev.now _)) (Ev.now _)
  | false =>
    refine ⟨t, u, ?_, z2⟩
    unfold spec_DrawRankOfNumber.f spec_DrawIsWalk.f spec_DrawIsWalk.g
    exact Ev.bind (Ev.bind (Ev.bindc e1 (Ev.bind e2 (Ev.bindc e3 (Ev.neg (by simp) (Ev.now _))))) (Ev.now _)) (Ev.now _)
theorem drawBusiest_ok : ∃ a n, Ev (fun k => spec_DrawBusiestKey.f k l) (a, n) := by
  obtain ⟨a, s, n, e, _⟩ := drawNumbers_ok l hl
  refine ⟨a, n, ?_⟩
  unfold spec_DrawBusiestKey.f spec_DrawCountAllNumbers.f
  exact Ev.bind (Ev.bind e (Ev.now _)) (Ev.now _)
theorem drawRounds_ok : ∃ a s n, Ev (fun k => spec_DrawCountRounds.f k l) (a, s, n) ∧ s.size ≤ 100 := by
  obtain ⟨a, s, t, n, e, z, _⟩ := drawBetween_ok l hl
  refine ⟨a, s, n, ?_, z⟩
  unfold spec_DrawCountRounds.f
  exact Ev.bind e (Ev.now _)
end
end WalkV
end Go.Proofs.YtffbfkfbeggdnaaGreatDoor
namespace Go.Proofs.YtffbfkfbeggdnaaGreatDoor
open Go.RowKit Go.Proofs.YtffbfkfbeggdnaaGreatDoor.P Go.Proofs.YtffbfkfbeggdnaaGreatDoorW.PrintWords IsWalk RankOf
set_option linter.unusedSimpArgs false
set_option linter.unusedVariables false
/-! The law on walks, part by part, from its end. -/
namespace WalkV
theorem ext01 (s : ByteArray) : s.extract (0 : Int).toNat (1 : Int).toNat = s.extract 0 1 := rfl
theorem few_ok {n : Int} (h : (fewP n).2 = true) : fewP n = (n, true) ∧ n ≤ 1000000000000000 := by
  unfold fewP at h ⊢
  by_cases c : n > 1000000000000000
  · rw [if_pos c] at h; cases h
  · rw [if_neg c]; exact ⟨rfl, by omega⟩
theorem knight : (⟨#[110]⟩ : ByteArray).toList = [110] := by rw [bl_toList]; rfl
theorem knight_of {a : ByteArray} (h : a.toList = ([110] : List UInt8)) : a = ⟨#[110]⟩ := bl_inj (by rw [← bl_toList, h]; rfl)
/-- Rounds. -/
theorem j11_ev (a s : ByteArray) (n x : Int) (ok : Bool) (hs : s.size ≤ 100) (h : ∀ r, Ev (fun k => impl_CountBetween.f k a s s n) r → r = (x, ok)) : Ev (fun k => laws_FnWalksGo.j11 k a s n x ok) true := by
  apply Ev.succ; simp only [laws_FnWalksGo.j11]
  cases ok with
  | false => exact Ev.neg (by decide) (Ev.now _)
  | true =>
    obtain ⟨r, hi, _, hf⟩ := between_two a s s n (by omega) (by omega)
    have hr := h r hi
    subst hr
    obtain ⟨d, e, m, hp, hd, he, q1, q2, rfl, hm, hq⟩ := hf rfl
    have hde : d = e := by
      have : (⟨#[UInt8.ofNat (48 + d)]⟩ : ByteArray) = ⟨#[UInt8.ofNat (48 + e)]⟩ := q1.symm.trans q2
      have h2 := congrArg (fun z => bt z 0) this
      simp only [sign_bt d hd, sign_bt e he] at h2
      omega
    refine Ev.pos rfl (Ev.bind hi (Ev.pos rfl (Ev.pos rfl ?_)))
    by_cases c : a.toList = ([110] : List UInt8)
    · refine Ev.pos c ?_
      by_cases c2 : Int.tmod (m : Int) 2 = 1
      · refine Ev.pos c2 (Ev.pos ?_ (Ev.now _))
        rw [Int.tmod_eq_emod_of_nonneg (by omega)] at c2
        obtain rfl := knight_of c
        have h0 := odd_at m hm (by omega) e he
        subst hde
        rw [h0] at hq
        exact congrArg Prod.fst hq
      · exact Ev.neg c2 (Ev.now _)
    · exact Ev.neg c (Ev.now _)
/-- Both directions. -/
theorem j10_ev (r a b : ByteArray) (n x : Int) (ok : Bool) (ha : a.size ≤ 100) (hb : b.size ≤ 100) (h : ∀ q, Ev (fun k => impl_CountBetween.f k r a b n) q → q = (x, ok)) (t s : ByteArray) (n' x' : Int) (ok' : Bool) (last : Ev (fun k => laws_FnWalksGo.j11 k t s n' x' ok') true) : Ev (fun k => laws_FnWalksGo.j10 k r a b n x ok t s n' x' ok') true := by
  apply Ev.succ; simp only [laws_FnWalksGo.j10]
  cases ok with
  | false => exact Ev.neg (by decide) last
  | true =>
    obtain ⟨q, hi, _, hf⟩ := between_two r a b n (by omega) (by omega)
    have hr := h q hi
    subst hr
    obtain ⟨d, e, m, hp, hd, he, rfl, rfl, rfl, hm, hq⟩ := hf rfl
    obtain ⟨f1, f2⟩ := few_ok (n := rd (itr (tbl r) (row0 (48 + (e : Int))) m) (d : Int)) (by rw [← hq])
    rw [f1] at hq
    have hx : x = rd (itr (tbl r) (row0 (48 + (e : Int))) m) (d : Int) := congrArg Prod.fst hq
    have hother := implBetween_ev hp e d m he hd hm
    rw [← sym_at hp m hm d e hd he, f1, ← hx] at hother
    refine Ev.pos rfl (Ev.bind hother (Ev.pos rfl (Ev.pos rfl ?_)))
    by_cases c : (m : Int) = 0
    · refine Ev.pos c (Ev.neg ?_ last)
      obtain rfl : m = 0 := by omega
      have h0 := none_at ⟨d, hd⟩ ⟨e, he⟩
      simp only [Fin.mk.injEq] at h0
      rw [itr, h0] at hx
      rw [bl_toList, bl_toList, hx]
      by_cases cde : d = e
      · subst cde; rw [if_pos rfl]; simp
      · rw [if_neg cde]
        have hne : ¬ bl (⟨#[UInt8.ofNat (48 + d)]⟩ : ByteArray) = bl ⟨#[UInt8.ofNat (48 + e)]⟩ := by
          intro h
          have h2 := congrArg (fun z => bt z 0) (bl_inj h)
          simp only [sign_bt d hd, sign_bt e he] at h2
          omega
        rw [beq_eq_false_iff_ne.mpr hne]; decide
    · exact Ev.neg c last
/-- A walk is the number of its rank. -/
theorem j9_ev (q w : ByteArray) (hw : w.size ≤ 100) (x : Int) (ok : Bool) (h : ∀ z, Ev (fun k => impl_RankOfNumber.f k q w) z → z = (x, ok)) (r a b : ByteArray) (n y : Int) (ok2 : Bool) (t s : ByteArray) (n' x' : Int) (ok' : Bool) (last : Ev (fun k => laws_FnWalksGo.j10 k r a b n y ok2 t s n' x' ok') true) : Ev (fun k => laws_FnWalksGo.j9 k q w x ok r a b n y ok2 t s n' x' ok') true := by
  apply Ev.succ; simp only [laws_FnWalksGo.j9]
  cases ok with
  | false => exact Ev.neg (by decide) last
  | true =>
    obtain ⟨z, hi, _, hf⟩ := rankOf_two q w (by omega)
    have hz := h z hi
    subst hz
    obtain ⟨m, d, W, hq⟩ := hf rfl
    have hx : x = rankP (tbl q) (bl w) 0 := congrArg Prod.fst hq
    obtain ⟨r0, r1, r2⟩ := walked_wtext W
    have hn := numberOf_yes W.pc d m (rankP (tbl q) (bl w) 0) W.ten W.short r0 r1 W.few
    rw [r2, ← hx] at hn
    have hl := W.len
    have hsz : w.size = (bl w).length := rfl
    rw [head_ex W, show (w.size : Int) = (m : Int) + 1 by omega]
    exact Ev.pos rfl (Ev.pos (by omega) (Ev.pos (by omega) (Ev.bind hn (Ev.pos rfl (Ev.pos rfl last)))))
/-- The number of a rank has that rank. -/
theorem j8_ev (p k_ : ByteArray) (hk : k_.size ≤ 100) (n rk : Int) (num : ByteArray) (ok : Bool) (h : ∀ z, Ev (fun k => impl_NumberOfRank.f k p k_ n rk) z → z = (num, ok)) (q w : ByteArray) (x : Int) (ok1 : Bool) (r a b : ByteArray) (n2 y : Int) (ok2 : Bool) (t s : ByteArray) (n' x' : Int) (ok' : Bool) (last : Ev (fun k => laws_FnWalksGo.j9 k q w x ok1 r a b n2 y ok2 t s n' x' ok') true) : Ev (fun k => laws_FnWalksGo.j8 k p k_ n rk num ok q w x ok1 r a b n2 y ok2 t s n' x' ok' false) true := by
  apply Ev.succ; simp only [laws_FnWalksGo.j8]
  refine Ev.neg (by decide) ?_
  cases ok with
  | false => exact Ev.neg (by decide) last
  | true =>
    obtain ⟨z, hi, _, hf⟩ := numberOf_two p k_ n rk (by omega)
    have hz := h z hi
    subst hz
    obtain ⟨d, m, hp, hd, rfl, rfl, hm, h0, h1, h2, hq⟩ := hf rfl
    have hnum : num = wtext p m d rk := congrArg Prod.fst hq
    obtain ⟨W, w1, w2⟩ := wtext_walked hp d m rk hd hm h0 h1 h2
    have hr := rankOf_yes W (by rw [w2]; omega)
    rw [w1] at hr
    rw [hnum, head_ex W, w2]
    exact Ev.pos rfl (Ev.bind hr (Ev.pos rfl (Ev.pos rfl (Ev.pos (by omega) (Ev.pos (by omega) (Ev.pos (by omega) (Ev.pos rfl last)))))))
theorem uniq {α : Type} {g : Nat → Option α} {a b : α} (h : Ev g a) (h' : Ev g b) : b = a := by
  obtain ⟨n, hn⟩ := h
  obtain ⟨m, hm⟩ := h'
  have e1 := hn (max n m) (by omega)
  have e2 := hm (max n m) (by omega)
  rw [e1] at e2
  exact (Option.some.inj e2).symm
section
variable (l1 : List Int) (hl1 : ∀ x ∈ l1, 0 ≤ x ∧ x ≤ 255)
include hl1
/-- All that is drawn from the second code. -/
theorem j7_ev : Ev (fun k => laws_FnWalksGo.j7 k l1) true := by
  obtain ⟨p, k_, n, rk, d1, z1⟩ := drawRank_ok l1 hl1
  obtain ⟨q, w, d2, z2⟩ := drawRankOf_ok l1 hl1
  obtain ⟨r, a, b, n2, d3, z3, z3'⟩ := drawBetween_ok l1 hl1
  obtain ⟨u, n3, d4⟩ := drawBusiest_ok l1 hl1
  obtain ⟨t, s, n4, d5, z5⟩ := drawRounds_ok l1 hl1
  obtain ⟨r1, i1, s1, _⟩ := numberOf_two p k_ n rk (by omega)
  obtain ⟨r2, i2, s2, f2⟩ := rankOf_two q w (by omega)
  obtain ⟨r3, i3, s3, f3⟩ := isWalk_two q w (by omega)
  obtain ⟨r4, i4, s4, _⟩ := between_two r a b n2 (by omega) (by omega)
  obtain ⟨r5, i5, s5, _⟩ := busiest_two u n3
  obtain ⟨r6, i6, s6, _⟩ := between_two t s s n4 (by omega) (by omega)
  have i6' : Ev (fun k => impl_CountRounds.f k t s n4) r6 := by unfold impl_CountRounds.f; exact Ev.bind i6 (Ev.now _)
  have s6' : Ev (fun k => spec_CountRounds.f k t s n4) r6 := by unfold spec_CountRounds.f; exact Ev.bind s6 (Ev.now _)
  have last := j8_ev p k_ z1 n rk r1.1 r1.2 (fun z h => uniq i1 h) q w r2.1 r2.2 r a b n2 r4.1 r4.2 t s n4 r6.1 r6.2
    (j9_ev q w z2 r2.1 r2.2 (fun z h => uniq i2 h) r a b n2 r4.1 r4.2 t s n4 r6.1 r6.2
      (j10_ev r a b n2 r4.1 r4.2 z3 z3' (fun z h => uniq i4 h) t s n4 r6.1 r6.2
        (j11_ev t s n4 r6.1 r6.2 z5 (fun z h => uniq i6 h))))
  apply Ev.succ; simp only [laws_FnWalksGo.j7]
  refine Ev.bind d1 (Ev.bind i1 (Ev.bind s1 (Ev.bind d2 (Ev.bind i2 (Ev.bind s2 (Ev.bind i3 (Ev.bind s3 (Ev.bind d3 (Ev.bind i4 (Ev.bind s4 (Ev.bind d4 (Ev.bind i5 (Ev.bind s5 (Ev.bind d5 (Ev.bind i6' (Ev.bind s6' ?_))))))))))))))))
  refine Ev.neg (by simp) (Ev.pos rfl (Ev.neg (by simp) (Ev.pos rfl (Ev.neg (by simp) (Ev.neg (by simp) (Ev.neg (by simp) (Ev.pos rfl (Ev.neg (by simp) (Ev.pos rfl (Ev.pos rfl (Ev.neg (by simp) (Ev.pos rfl ?_))))))))))))
  cases h2 : r2.2 with
  | false => rw [h2] at last; exact Ev.neg (by decide) last
  | true =>
    obtain ⟨m, d, W, _⟩ := f2 h2
    have h3 := f3 m d W
    rw [h3]
    rw [h2] at last
    exact Ev.pos rfl (Ev.pos rfl last)
end
end WalkV
namespace WalkV
def sumT (row : List Int) (i : Nat) : Int := (row.take i).foldl (· + ·) 0
theorem sumT_succ (row : List Int) (i : Nat) (h : i < row.length) : sumT row (i + 1) = sumT row i + row[i] := by
  unfold sumT
  rw [List.take_succ_eq_append_getElem h, List.foldl_append]; rfl
theorem sumT_bd (row : List Int) (hb : ∀ x ∈ row, 0 ≤ x ∧ x ≤ 1000000000000000) : ∀ i : Nat, i ≤ row.length → 0 ≤ sumT row i ∧ sumT row i ≤ 1000000000000000 * (i : Int)
  | 0, _ => by simp [sumT]
  | i + 1, h => by
    have h0 := sumT_bd row hb i (by omega)
    have h1 := hb _ (List.getElem_mem (show i < row.length by omega))
    rw [sumT_succ row i (by omega)]
    omega
theorem sumT_all (row : List Int) : sumT row row.length = row.foldl (· + ·) 0 := by unfold sumT; rw [List.take_length]
theorem digits_cut : ∀ i : Fin 10, (⟨#[48, 49, 50, 51, 52, 53, 54, 55, 56, 57]⟩ : ByteArray).extract i.val (i.val + 1) = ⟨#[UInt8.ofNat (48 + i.val)]⟩ := by decide +kernel
theorem digsOf_cut (l : List Int) (i : Nat) (h : i < l.length) : (digsOf l).extract i (i + 1) = ⟨#[UInt8.ofNat (48 + l[i].toNat)]⟩ := by
  apply bl_inj
  rw [bl_extract]
  have e1 : bl (digsOf l) = l.map fun e => UInt8.ofNat (48 + e.toNat) := by simp [digsOf, bl]
  rw [e1, ← List.map_drop, List.drop_eq_getElem_cons h, Nat.add_sub_cancel_left]
  rfl
theorem rises_get : ∀ (l : List Int) (i : Nat) (h : i + 1 < l.length), rises l = true → l[i]'(by omega) < l[i + 1]
  | a :: b :: r, 0, h, hr => by
    simp only [rises, Bool.and_eq_true, decide_eq_true_eq] at hr
    exact hr.1
  | a :: b :: r, i + 1, h, hr => by
    have := rises_get (b :: r) i (by simp at h ⊢; omega) (rises_tail a _ hr)
    simpa using this
/-- Neighbours: who leads to a key is led to by it, none leads to itself. -/
def nbB (p : ByteArray) : Bool := (List.range 10).all fun d : Nat => !((tbl p).getD d []).contains (d : Int) && ((tbl p).getD d []).all fun e => ((tbl p).getD e.toNat []).contains (d : Int) && (laws_fSign.f 100 (digsOf ((tbl p).getD e.toNat [])) (48 + (d : Int)) == some true)
theorem nb_at {p : ByteArray} (hp : isPc p) (d : Nat) (hd : d < 10) : (∀ e ∈ (tbl p).getD d [], Ev (fun k => laws_fSign.f k (digsOf ((tbl p).getD e.toNat [])) (48 + (d : Int))) true) ∧ ¬ (d : Int) ∈ (tbl p).getD d [] := by
  have h : nbB p = true := by rcases hp with rfl | rfl | rfl | rfl <;> decide +kernel
  have h1 := List.all_eq_true.1 h d (List.mem_range.2 hd)
  rw [Bool.and_eq_true] at h1
  refine ⟨fun e he => ?_, ?_⟩
  · have h2 := List.all_eq_true.1 h1.2 e he
    rw [Bool.and_eq_true] at h2
    exact Ev.of (k := 100) (laws_fSign.mono _ _) (by simpa using h2.2)
  · have := h1.1
    simpa using this
theorem sumP_app (row : List Int) : ∀ (a b : List Int), sumP row (a ++ b) = sumP row a + sumP row b
  | [], b => by simp [sumP]
  | x :: a, b => by simp only [List.cons_append, sumP, sumP_app row a b]; omega
section
variable (l1 : List Int) (hl1 : ∀ x ∈ l1, 0 ≤ x ∧ x ≤ 255)
include hl1
theorem l2_ev {a : ByteArray} (hp : isPc a) (m : Nat) (hm : m < 40) (all : Int) (hok : okRow (itr (tbl a) (row0 0) m) (all, true) = true) : ∀ (n i : Nat), i + n = 10 → Ev (fun k => laws_FnWalksGo.l2 k l1 a ((m : Int) + 1) all (sumT (itr (tbl a) (row0 0) m) i) i) true := by
  have hlen := itr_len (tbl_shape hp).1 (row0_len 0) m
  simp only [okRow, Bool.not_true, Bool.false_or, Bool.and_eq_true, decide_eq_true_eq] at hok
  obtain ⟨hall, hsum⟩ := hok
  have hb : ∀ x ∈ itr (tbl a) (row0 0) m, 0 ≤ x ∧ x ≤ 1000000000000000 := by
    intro x hx
    have := List.all_eq_true.1 hall x hx
    simpa using this
  have hbd := sumT_bd _ hb
  intro n
  induction n with
  | zero =>
    intro i hi
    obtain rfl : i = 10 := by omega
    obtain ⟨r, bi, _, bf⟩ := busiest_two a ((m : Int) + 1)
    apply Ev.succ; simp only [laws_FnWalksGo.l2]
    have e1 : sumT (itr (tbl a) (row0 0) m) 10 = all := by rw [← hlen, sumT_all]; exact hsum
    rw [e1]
    refine Ev.neg (by omega) (Ev.bind bi (Ev.pos rfl ?_))
    by_cases c : (m : Int) + 1 ≤ 20
    · have hf := bf hp (by omega) c
      rw [show ((m : Int) + 1 - 1).toNat = m by omega] at hf
      simp only [okBusy, Bool.and_eq_true, decide_eq_true_eq] at hf
      obtain ⟨⟨⟨⟨f1, f2⟩, f3⟩, f4⟩, f5⟩ := hf
      have ew : wrap64 (r.2.1 * 10) = r.2.1 * 10 := wrap_id (by omega) (by omega)
      rw [hsum] at f3
      exact Ev.pos c (Ev.pos f1 (Ev.neg (by rw [ew]; omega) (Ev.pos (by omega) (j7_ev l1 hl1))))
    · exact Ev.neg c (j7_ev l1 hl1)
  | succ n ih =>
    intro i hi
    have hi10 : i < 10 := by omega
    have hil : i < (itr (tbl a) (row0 0) m).length := by omega
    have hx := hb _ (List.getElem_mem hil)
    have h0 := hbd i (by omega)
    have hc := implCount_ev hp i m hi10 hm
    rw [rd_nat _ i hil] at hc
    have ef : fewP (itr (tbl a) (row0 0) m)[i] = ((itr (tbl a) (row0 0) m)[i], true) := by unfold fewP; rw [if_neg (by omega)]
    rw [ef] at hc
    have ew : wrap64 ((i : Int) + 1) = ((i + 1 : Nat) : Int) := by rw [wrap_id (by omega) (by omega)]; omega
    have ew2 : wrap64 (sumT (itr (tbl a) (row0 0) m) i + (itr (tbl a) (row0 0) m)[i]) = sumT (itr (tbl a) (row0 0) m) (i + 1) := by
      rw [sumT_succ _ i hil, wrap_id (by omega) (by omega)]
    apply Ev.succ; simp only [laws_FnWalksGo.l2]
    rw [ew, Int.toNat_natCast, Int.toNat_natCast, digits_cut ⟨i, hi10⟩]
    refine Ev.pos (by omega) (Ev.pos (by omega) (Ev.pos (by omega) (Ev.pos (by omega) (Ev.bind hc (Ev.pos rfl ?_)))))
    simp only [ew2]
    exact ih (i + 1) (by omega)
/-- All keys together, and the busiest. -/
theorem j5_ev (a : ByteArray) (n : Int) (r : Int × Bool) (hf : r.2 = true → ∃ m : Nat, isPc a ∧ n = (m : Int) + 1 ∧ m < 40 ∧ okRow (itr (tbl a) (row0 0) m) r = true) : Ev (fun k => laws_FnWalksGo.j5 k l1 a n r.1 r.2) true := by
  apply Ev.succ; simp only [laws_FnWalksGo.j5]
  obtain ⟨all, ok⟩ := r
  cases ok with
  | false => exact Ev.neg (by simp) (j7_ev l1 hl1)
  | true =>
    obtain ⟨m, hp, rfl, hm, hok⟩ := hf rfl
    exact Ev.pos rfl (l2_ev l1 hl1 hp m hm all hok 10 0 (by omega))
omit hl1 in
/-- The count is the sum of the next keys' counts. -/
theorem l1_ev {a : ByteArray} (hp : isPc a) (m d : Nat) (hd : d < 10) (hm : m + 1 < 40) (count : Int) (hc : count = rd (itr (tbl a) (row0 0) (m + 1)) (d : Int)) (hcl : count ≤ 1000000000000000) (r : Int × Bool) (last : Ev (fun k => laws_FnWalksGo.j5 k l1 a (((m + 1 : Nat) : Int) + 1) r.1 r.2) true) : ∀ (n i : Nat), i + n = ((tbl a).getD d []).length →
    Ev (fun k => laws_FnWalksGo.l1 k l1 a (((m + 1 : Nat) : Int) + 1) count (digsOf ((tbl a).getD d [])) r.1 r.2 (sumP (itr (tbl a) (row0 0) m) (((tbl a).getD d []).take i)) (digsOf ((tbl a).getD d [])) i) true := by
  have hb := bnd_itr (tbl a) m
  have hmem := rd_tbl hp d hd
  obtain ⟨h8, hx⟩ := (tbl_shape hp).2 _ hmem
  rw [itr_at hp m d hd] at hc
  obtain ⟨e1, e2⟩ := sumOf_plain hb ((tbl a).getD d []) 0 (by omega) (by omega) (by omega)
  rw [e1, Int.zero_add] at hc
  generalize (tbl a).getD d [] = es at h8 hx hc e2
  clear e1
  intro n
  induction n with
  | zero =>
    intro i hi
    obtain rfl : i = es.length := by omega
    apply Ev.succ; simp only [laws_FnWalksGo.l1]
    refine Ev.neg (by rw [digsOf_len]; omega) (Ev.pos ?_ last)
    rw [List.take_length, hc]
  | succ n ih =>
    intro i hi
    have hlt : i < es.length := by omega
    have hxi := hx _ (List.getElem_mem hlt)
    have t1 : 48 + es[i] < 128 := by have h := hxi.2; clear ih last hx hc e2; omega
    have t2 : es.length ≤ 1048576 := by omega
    have t3 : (i : Int) < (es.length : Int) := by omega
    have t4 : (0 : Int) ≤ (i : Int) := by omega
    have t5 : (i : Int) ≤ ((i + 1 : Nat) : Int) := by omega
    have t6 : ((i + 1 : Nat) : Int) ≤ (es.length : Int) := by omega
    obtain ⟨e, he⟩ : ∃ e : Nat, es[i] = e := ⟨_, (Int.toNat_of_nonneg hxi.1).symm⟩
    have hce := implCount_ev hp e m (by omega) (by omega)
    have hle := e2 _ (List.getElem_mem hlt)
    rw [he] at hle
    have ef : fewP (rd (itr (tbl a) (row0 0) m) (e : Int)) = (rd (itr (tbl a) (row0 0) m) (e : Int), true) := by unfold fewP; rw [if_neg (by omega)]
    rw [ef] at hce
    have hsp : es = es.take i ++ es[i] :: es.drop (i + 1) := by rw [← List.drop_eq_getElem_cons hlt, List.take_append_drop]
    have s1 : sumP (itr (tbl a) (row0 0) m) es = sumP (itr (tbl a) (row0 0) m) (es.take i) + (rd (itr (tbl a) (row0 0) m) (e : Int) + sumP (itr (tbl a) (row0 0) m) (es.drop (i + 1))) := by
      conv => lhs; rw [hsp]
      rw [sumP_app, sumP, he]
    have s2 := sumP_nn hb (es.take i)
    have s3 := sumP_nn hb (es.drop (i + 1))
    have s4 := (hb (e : Int)).1
    have ew : wrap64 ((i : Int) + 1) = ((i + 1 : Nat) : Int) := by rw [wrap_id (by omega) (by omega)]; omega
    have ewm : wrap64 (((m + 1 : Nat) : Int) + 1 - 1) = (m : Int) + 1 := by rw [wrap_id (by omega) (by omega)]; omega
    have ew2 : wrap64 (sumP (itr (tbl a) (row0 0) m) (es.take i) + rd (itr (tbl a) (row0 0) m) (e : Int)) = sumP (itr (tbl a) (row0 0) m) (es.take (i + 1)) := by
      rw [wrap_id (by omega) (by omega), List.take_succ_eq_append_getElem hlt, sumP_app, sumP, sumP, he]; omega
    have hbt := digsOf_bt es hx i hlt
    have hcut := digsOf_cut es i hlt
    rw [he, Int.toNat_natCast] at hcut
    apply Ev.succ; simp only [laws_FnWalksGo.l1]
    rw [ew, Int.toNat_natCast, Int.toNat_natCast, hcut, ewm, hbt, digsOf_len]
    refine Ev.pos t3 (Ev.pos ⟨t1, t2⟩ (Ev.pos t4 (Ev.pos t5 (Ev.pos t6 (Ev.bind hce (Ev.pos rfl ?_))))))
    simp only [ew2]
    exact ih (i + 1) (by omega)
omit hl1 in
/-- Next keys lead back, are other keys, and rise. -/
theorem l0_ev {a : ByteArray} (hp : isPc a) (d : Nat) (hd : d < 10) (n c : Int) (ok : Bool) (r : Int × Bool) (last : Ev (fun k => laws_FnWalksGo.j2 k l1 a n c ok (digsOf ((tbl a).getD d [])) r.1 r.2) true) : ∀ (z i : Nat), i + z = ((tbl a).getD d []).length →
    Ev (fun k => laws_FnWalksGo.l0 k l1 a ⟨#[UInt8.ofNat (48 + d)]⟩ n c ok (digsOf ((tbl a).getD d [])) r.1 r.2 (digsOf ((tbl a).getD d [])) i) true := by
  have hmem := rd_tbl hp d hd
  obtain ⟨h8, hx⟩ := (tbl_shape hp).2 _ hmem
  obtain ⟨nb1, nb2⟩ := nb_at hp d hd
  have hr := tbl_rises hp _ hmem
  generalize (tbl a).getD d [] = es at h8 hx nb1 nb2 hr last
  intro z
  induction z with
  | zero =>
    intro i hi
    apply Ev.succ; simp only [laws_FnWalksGo.l0]
    exact Ev.neg (by rw [digsOf_len]; omega) last
  | succ z ih =>
    intro i hi
    have hlt : i < es.length := by omega
    have hm := List.getElem_mem hlt
    have hxi := hx _ hm
    have hfs := nb1 _ hm
    have hne : es[i] ≠ (d : Int) := fun h => nb2 (h ▸ hm)
    obtain ⟨e, he⟩ : ∃ e : Nat, es[i] = e := ⟨_, (Int.toNat_of_nonneg hxi.1).symm⟩
    have he10 : e < 10 := by omega
    have hnk := (nextKeys_yes hp e he10).1
    rw [he, Int.toNat_natCast] at hfs
    have ew : wrap64 ((i : Int) + 1) = ((i + 1 : Nat) : Int) := by rw [wrap_id (by omega) (by omega)]; omega
    have hbt := digsOf_bt es hx i hlt
    have hcut := digsOf_cut es i hlt
    rw [he, Int.toNat_natCast] at hcut
    have hgo := ih (i + 1) (by omega)
    have key : Ev (fun k => if (i : Int) > 0 then (if 0 ≤ (wrap64 ((i : Int) - 1)) then (if (wrap64 ((i : Int) - 1)) < ((digsOf es).size : Int) then (if (bt (digsOf es) (wrap64 ((i : Int) - 1))) ≥ (bt (digsOf es) (i : Int)) then none else (laws_FnWalksGo.l0 k l1 a ⟨#[UInt8.ofNat (48 + d)]⟩ n c ok (digsOf es) r.1 r.2 (digsOf es) ((i + 1 : Nat) : Int))) else none) else none) else (laws_FnWalksGo.l0 k l1 a ⟨#[UInt8.ofNat (48 + d)]⟩ n c ok (digsOf es) r.1 r.2 (digsOf es) ((i + 1 : Nat) : Int))) true := by
      by_cases c0 : (i : Int) > 0
      · obtain ⟨j, rfl⟩ : ∃ j, i = j + 1 := ⟨i - 1, by omega⟩
        have ej : wrap64 (((j + 1 : Nat) : Int) - 1) = (j : Int) := by rw [wrap_id (by omega) (by omega)]; omega
        have hbj := digsOf_bt es hx j (by omega)
        have hlt2 := rises_get es j hlt hr
        rw [ej, hbj, hbt, digsOf_len]
        exact Ev.pos c0 (Ev.pos (by omega) (Ev.pos (by omega) (Ev.neg (by omega) hgo)))
      · exact Ev.neg c0 hgo
    apply Ev.succ; simp only [laws_FnWalksGo.l0]
    rw [ew, Int.toNat_natCast, Int.toNat_natCast, hcut, sign_bt d hd]
    refine Ev.pos (by rw [digsOf_len]; omega) (Ev.pos ⟨by rw [hbt]; omega, by rw [digsOf_len]; omega⟩ (Ev.pos (by omega) (Ev.pos (by omega) (Ev.pos (by rw [digsOf_len]; omega) (Ev.bind hnk (Ev.pos rfl (Ev.pos (sign_size d) (Ev.bind hfs (Ev.pos rfl (Ev.pos (by rw [digsOf_len]; omega) (Ev.neg (by rw [hbt]; omega) key)))))))))))
end
end WalkV
end Go.Proofs.YtffbfkfbeggdnaaGreatDoor
/- FnWalksGo: next keys lead back, counts are those of next keys, ranks and numbers undo one another, and counts between keys are the same in both directions: over the functions that the walk computes. -/
namespace Go.Proofs.YtffbfkfbeggdnaaGreatDoor
open Go.RowKit Go.Proofs.YtffbfkfbeggdnaaGreatDoor.P Go.Proofs.YtffbfkfbeggdnaaGreatDoorW.PrintWords
open WalkV
set_option linter.unusedSimpArgs false
set_option linter.unusedVariables false
theorem pure_FnWalksGo : PureFnWalksGo := by
  intro l0 l1 h0 h1
  have w0 : ∀ x ∈ l0, 0 ≤ x ∧ x ≤ 255 := fun x hx => by
    have h := h0.2 x hx
    have e1 : IntKind.u8.min = 0 := rfl
    have e2 : IntKind.u8.max = 255 := rfl
    simp only [Lit.wf, e1, e2, Bool.and_eq_true, decide_eq_true_eq] at h
    exact h
  have w1 : ∀ x ∈ l1, 0 ≤ x ∧ x ≤ 255 := fun x hx => by
    have h := h1.2 x hx
    have e1 : IntKind.u8.min = 0 := rfl
    have e2 : IntKind.u8.max = 255 := rfl
    simp only [Lit.wf, e1, e2, Bool.and_eq_true, decide_eq_true_eq] at h
    exact h
  suffices h : Ev (fun k => laws_FnWalksGo.f k l0 l1) true by obtain ⟨k, hk⟩ := h; exact ⟨k, hk k (Nat.le_refl _)⟩
  unfold laws_FnWalksGo.f
  obtain ⟨B, hB⟩ : ∃ B, laws_big.f l0 l1 = some B := by
    unfold laws_big.f
    by_cases c : (l0.length : Int) > 1048576
    · exact ⟨_, if_pos c⟩
    · exact ⟨_, if_neg c⟩
  refine Ev.bindc hB ?_
  cases B with
  | true => exact Ev.pos rfl (Ev.now _)
  | false =>
    obtain ⟨a, s, n, dn, hs, hn41⟩ := drawNumbers_ok l0 w0
    obtain ⟨⟨c, ok⟩, c2, c1, cf⟩ := countNumbers_two a s n (by omega)
    obtain ⟨⟨nx, one⟩, n1, n2, nf, ny⟩ := nextKeys_two a s (by omega)
    obtain ⟨r, a1, a2, af⟩ := countAll_two a n
    have j5 := j5_ev l1 w1 a n r af
    have j3 : Ev (fun k => laws_FnWalksGo.j3 k l1 a n c nx r.1 r.2 false) true := by
      apply Ev.succ; simp only [laws_FnWalksGo.j3]
      exact Ev.neg (by decide) j5
    have j2 : Ev (fun k => laws_FnWalksGo.j2 k l1 a n c ok nx r.1 r.2) true := by
      apply Ev.succ; simp only [laws_FnWalksGo.j2]
      cases ok with
      | false => exact Ev.neg (by decide) j3
      | true =>
        obtain ⟨d, m, hp, hd, rfl, rfl, hm, b0, b1, hr⟩ := cf rfl
        have one1 : one = true := ny ⟨hp, d, hd, rfl⟩
        obtain ⟨d', _, hd', hss, hnx⟩ := nf one1
        have hdd : d = d' := by
          have h2 := congrArg (fun z => bt z 0) hss
          simp only [sign_bt d hd, sign_bt d' hd'] at h2
          omega
        subst hdd
        have hnx1 : nx = digsOf ((tbl a).getD d []) := congrArg Prod.fst hnx
        refine Ev.pos rfl ?_
        by_cases c0 : (m : Int) + 1 > 1
        · obtain ⟨m', rfl⟩ : ∃ m', m = m' + 1 := ⟨m - 1, by omega⟩
          rw [decide_eq_true c0]
          apply Ev.succ; simp only [laws_FnWalksGo.j3]
          obtain ⟨f1, f2⟩ := few_ok (n := rd (itr (tbl a) (row0 0) (m' + 1)) (d : Int)) (by rw [← hr])
          rw [f1] at hr
          have hc : c = rd (itr (tbl a) (row0 0) (m' + 1)) (d : Int) := congrArg Prod.fst hr
          have := l1_ev l1 hp m' d hd hm c hc (by omega) r j5 ((tbl a).getD d []).length 0 (by omega)
          rw [hnx1]
          exact Ev.yes this
        · rw [decide_eq_false c0]
          exact j3
    have j0 : Ev (fun k => laws_FnWalksGo.j0 k l1 a s n c ok nx one r.1 r.2 false) true := by
      apply Ev.succ; simp only [laws_FnWalksGo.j0]
      refine Ev.neg (by decide) ?_
      cases one with
      | false => exact Ev.neg (by decide) j2
      | true =>
        obtain ⟨d, hp, hd, rfl, hnx⟩ := nf rfl
        have hnx1 : nx = digsOf ((tbl a).getD d []) := congrArg Prod.fst hnx
        subst hnx1
        exact Ev.pos rfl (l0_ev l1 hp d hd n c ok r j2 ((tbl a).getD d []).length 0 (by omega))
    refine Ev.neg (by decide) (Ev.bind dn (Ev.bind c1 (Ev.bind c2 (Ev.bind n1 (Ev.bind n2 (Ev.bind a1 (Ev.bind a2 ?_)))))))
    refine Ev.neg (by simp) (Ev.pos rfl (Ev.neg (by simp) (Ev.pos rfl (Ev.neg (by simp) (Ev.pos rfl ?_)))))
    cases ok with
    | false => exact Ev.neg (by simp) j0
    | true =>
      obtain ⟨d, m, hp, hd, rfl, rfl, _⟩ := cf rfl
      have one1 : one = true := ny ⟨hp, d, hd, rfl⟩
      subst one1
      exact Ev.pos rfl j0
end Go.Proofs.YtffbfkfbeggdnaaGreatDoor
namespace Go.Proofs.YtffbfkfbeggdnaaGreatDoor
open Go.RowKit Go.Proofs.YtffbfkfbeggdnaaGreatDoorW.PrintWords Go.ChangeShapes Go.WideShapes

theorem C_scalar {α : Type} {enc : α → Value} {h1 : ∀ x, (enc x).oneCell' = true} {w : World} {A : Option Addr} {l : List α} (hn : l.length ≤ 9223372036854775807)
    (hcell : 0 < l.length → ∃ ad, A = some ad ∧ ∀ j x, l[j]? = some x → w.cell? (ad.add j) = some (enc x)) : (Kd.scalar enc h1).C w A l.length l := by
  refine ⟨rfl, hn, fun hp => ?_⟩
  obtain ⟨ad, hA, hc⟩ := hcell hp
  refine ⟨ad, hA, fun j x hx => ⟨[enc x], rfl, rfl, fun i u hu => ?_⟩⟩
  match i, hu with
  | 0, hu =>
    have : enc x = u := by simpa using hu
    subst this
    show w.cell? (ad.add (j * 1 + 0)) = _
    rw [Nat.mul_one, Nat.add_zero]
    exact hc j x hx
  | i + 1, hu => simp at hu

section
variable {H : Type} {enc : TypeId × Value → H} {P : Program} {w : World} {base : Nat} {spare : Nat → Bool} {held : Bool}

/-- A cell that reads at a slice of whole numbers. -/
theorem read_ints {t e : TypeId} {k : IntKind} {fuel : Nat} {v : Value} {y : DataW H × List MemPlace} (ht : P.underlying t = some (.slice e)) (he : P.underlying e = some (.int k)) (hc : P.cellsOf e = 1)
    (hf : DataW.trod enc P w base spare held fuel t [v] = some y) :
    ∃ (A : Option Addr) (c : Nat) (l : List Int), v = .slice A l.length c ∧ l.length ≤ c ∧ (∀ x ∈ l, (Lit.int k x).wf = true) ∧ (Kd.int k).C w A l.length l := by
  rcases open_ints ht he hc hf with ⟨hcs, _⟩ | ⟨a, len, cap, zs, hcs, _, hl, hm, hz, _, hcell, hwf⟩
  · obtain rfl : v = .slice none 0 0 := by simpa using hcs
    exact ⟨none, 0, [], rfl, Nat.le_refl _, fun x hx => by simp at hx, rfl, by simp, fun h => absurd h (by simp)⟩
  · obtain rfl : v = .slice (some a) len cap := by simpa using hcs
    have hlz : len ≤ zs.length := by rw [hz]; split <;> omega
    have hlen : (zs.take len).length = len := by rw [List.length_take]; omega
    refine ⟨some a, cap, zs.take len, by rw [hlen], by rw [hlen]; exact hl, fun x hx => hwf x (List.mem_of_mem_take hx), ?_⟩
    refine C_scalar (by rw [hlen]; unfold maxLen at hm; omega) (fun hp => ⟨a, rfl, fun j x hj => ?_⟩)
    have hj' : j < len := by have := (List.getElem?_eq_some_iff.1 hj).1; rw [hlen] at this; exact this
    rw [hcell j (by omega)]
    rw [List.getElem?_take_of_lt hj'] at hj
    rw [List.getD_eq_getElem?_getD, hj]; rfl

/-- A cell that reads at a slice of strings. -/
theorem read_strs {t e : TypeId} {fuel : Nat} {v : Value} {y : DataW H × List MemPlace} (ht : P.underlying t = some (.slice e)) (he : P.underlying e = some .string) (hc : P.cellsOf e = 1)
    (hf : DataW.trod enc P w base spare held fuel t [v] = some y) :
    ∃ (A : Option Addr) (c : Nat) (l : List ByteArray), v = .slice A l.length c ∧ l.length ≤ c ∧ (∀ s ∈ l, s.size ≤ 9223372036854775807) ∧ Kd.string.C w A l.length l := by
  rcases open_strings ht he hc hf with ⟨hcs, _⟩ | ⟨a, len, cap, zs, hcs, _, hl, hm, hz, _, hcell, hwf⟩
  · obtain rfl : v = .slice none 0 0 := by simpa using hcs
    exact ⟨none, 0, [], rfl, Nat.le_refl _, fun x hx => by simp at hx, rfl, by simp, fun h => absurd h (by simp)⟩
  · obtain rfl : v = .slice (some a) len cap := by simpa using hcs
    have hlz : len ≤ zs.length := by rw [hz]; split <;> omega
    have hlen : (zs.take len).length = len := by rw [List.length_take]; omega
    refine ⟨some a, cap, zs.take len, by rw [hlen], by rw [hlen]; exact hl, fun x hx => by have := hwf x (List.mem_of_mem_take hx); unfold maxLen at this; omega, ?_⟩
    refine C_scalar (by rw [hlen]; unfold maxLen at hm; omega) (fun hp => ⟨a, rfl, fun j x hj => ?_⟩)
    have hj' : j < len := by have := (List.getElem?_eq_some_iff.1 hj).1; rw [hlen] at this; exact this
    rw [hcell j (by omega)]
    rw [List.getElem?_take_of_lt hj'] at hj
    rw [List.getD_eq_getElem?_getD, hj]; rfl

theorem read_int {t : TypeId} {k : IntKind} {fuel : Nat} {v : Value} {y : DataW H × List MemPlace} (ht : P.underlying t = some (.int k))
    (hf : DataW.trod enc P w base spare held fuel t [v] = some y) : ∃ n : Int, v = .int k n ∧ (Lit.int k n).wf = true := by
  obtain ⟨n, e1, _, h⟩ := DataW.trod_int ht hf
  exact ⟨n, by simpa using e1, h⟩
end

/-- The cells of a datum that holds numbers alone, an array's elements being numbers or structs of numbers. -/
def litsOf : DataW Unit → List Value
  | .lit (.int k n) => [.int k n]
  | .agg l => l.flatMap fun
    | .lit (.int k n) => [.int k n]
    | .agg l2 => l2.flatMap fun
      | .lit (.int k n) => [.int k n]
      | _ => []
    | _ => []
  | _ => []
end Go.Proofs.YtffbfkfbeggdnaaGreatDoor
/- FnWalksGoCardSaid: the law 'FnWalksGo' answers true for every input, and leaves its arguments as they were. The row and its tied card, over the walk of its calls and the pure statement. -/
namespace Go.Proofs.YtffbfkfbeggdnaaGreatDoor.fnWalksGo
open Go.ChangeShapes Go.WideShapes Go.ChangeAt Go.RowKit Go.Proofs.YtffbfkfbeggdnaaGreatDoor.P Go.Proofs.YtffbfkfbeggdnaaGreatDoorW.PrintWords
open Go.ChangeMaps (open_string shut_string)
set_option linter.unusedVariables false
theorem own : ownKnob Tryz.prog.godebug = none := by kernel_rfl
theorem laidOut : laidOutB Tryz.prog = true := by kernel_rfl
/-- What the row lists of package-level variables. -/
noncomputable def laidList : List (String × DataW Unit) := [("unicode/utf8.acceptRanges", Rows.laid_unicode_utf8_acceptRanges), ("unicode/utf8.first", Rows.laid_unicode_utf8_first)]
/-- A world that meets it: the settled one, the listed variables laid. -/
noncomputable def laidWorld (os : Os) : World :=
  let w0 := World.holding Tryz.prog os ⟨#[], #[], []⟩
  { w0 with heap := ((w0.heap.modify 2 fun o => match o with | .cells _ t frozen => .cells (litsOf Rows.laid_unicode_utf8_acceptRanges).toArray t frozen | o => o).modify 1 fun o => match o with | .cells _ t frozen => .cells (litsOf Rows.laid_unicode_utf8_first).toArray t frozen | o => o) }
theorem laidWorld_met (os : Os) (args : Array Value) : laidMetH Tryz.prog laidList ((laidWorld os).forCall (fun _ _ => 0) ⟨#[], args, []⟩).memory :=
  laidMetH_of_parts3 (fuel := 8) (laidMet_of_run' 8 (by kernel_rfl) (by kernel_rfl)) (by kernel_rfl) (by kernel_rfl)
set_option maxRecDepth 100000 in
theorem core (H : Type) (enc : TypeId × Value → H) (W : World) (base : Nat) (args : Array Value) (ds gs : List (DataW H)) (before : List MemPlace)
    (hval0 : ∀ (j : Nat) t v, Tryz.f3.params[j]? = some t → args[j]? = some v → Value.okWide Tryz.prog W .any base t v) (hW : DataW.Whole enc Tryz.prog Tryz.f3.params.toList Rows.fnWalksGoSpec.vars false W args.toList ds gs before) (hshp : W.ShapedOpen Tryz.prog) :
    Calls Tryz.prog 3 args W fun e W' => ∃ v, e = .returned v ∧ Rows.fnWalksGoSpec.post enc Tryz.prog Tryz.f3 false true false false W args v W' := by
  have hval : ∀ (j : Nat) t v, Tryz.f3.params[j]? = some t → args[j]? = some v → Value.okWide Tryz.prog W .any base t v := hval0
  have hW' := hW
  obtain ⟨p, q, hA0, hV, rfl, hfz, hnd⟩ := hW
  have hA : DataW.TrodAll enc Tryz.prog W 0 (fun _ => true) true Tryz.f3.params.toList args.toList ds p := hA0
  rw [Tryz.params3] at hA hval
  obtain ⟨v0, vs0, d0, ds0, p0, q0, hargs, rfl, rfl, h0, r0⟩ := trodAll_cons hA
  obtain ⟨v1, vs1, d1, ds1, p1, q1, rfl, rfl, rfl, h1, r1⟩ := trodAll_cons r0
  obtain ⟨rfl, rfl, rfl⟩ := trodAll_nil r1
  obtain rfl : args = #[v0, v1] := by cases args; simp_all
  obtain ⟨rfl, rfl⟩ := trodVars_none hV
  have k0 := h0
  have lt0 : ∀ x ∈ p0, x.block < W.heap.size := by obtain ⟨m, hm⟩ := k0; exact DataW.trod_lt m _ _ _ hm
  obtain ⟨a0, len0, cap0, rfl⟩ := okWide_slice Tryz.underlying22 (hval 0 22 v0 rfl rfl)
  obtain ⟨fu0, hf0⟩ := h0
  have hg0 : DataW.trod enc Tryz.prog W 0 (fun _ => true) true fu0 22 [.slice a0 len0 cap0] = some (d0, p0) := by simpa [Value.cells] using hf0
  clear hf0
  obtain ⟨vv0, hvv0⟩ : ∃ v, v = Value.slice a0 len0 cap0 := ⟨_, rfl⟩
  rw [← hvv0] at hg0 hW' k0 ⊢
  obtain ⟨A0, c0, l0, rfl, hc0, hw0, hr0⟩ := read_ints Tryz.underlying22 Tryz.underlying5 (by kernel_rfl) hg0
  have k1 := h1
  have lt1 : ∀ x ∈ p1, x.block < W.heap.size := by obtain ⟨m, hm⟩ := k1; exact DataW.trod_lt m _ _ _ hm
  obtain ⟨a1, len1, cap1, rfl⟩ := okWide_slice Tryz.underlying22 (hval 1 22 v1 rfl rfl)
  obtain ⟨fu1, hf1⟩ := h1
  have hg1 : DataW.trod enc Tryz.prog W 0 (fun _ => true) true fu1 22 [.slice a1 len1 cap1] = some (d1, p1) := by simpa [Value.cells] using hf1
  clear hf1
  obtain ⟨vv1, hvv1⟩ : ∃ v, v = Value.slice a1 len1 cap1 := ⟨_, rfl⟩
  rw [← hvv1] at hg1 hW' k1 ⊢
  obtain ⟨A1, c1, l1, rfl, hc1, hw1, hr1⟩ := read_ints Tryz.underlying22 Tryz.underlying5 (by kernel_rfl) hg1
  clear hA0 hval0
  obtain ⟨k, hk⟩ := pure_FnWalksGo l0 l1 ⟨hr0.2.1, hw0⟩ ⟨hr1.2.1, hw1⟩
  refine (laws_FnWalksGo.calls k A0 c0 l0 A1 c1 l1 true W hr0 hc0 hr1 hc1 (cell_of_shapedOpen_int (P := Tryz.prog) (g := 0) (t := 3) (zero := #[.int .i64 0]) hshp (of_decide_eq_true (by kernel_rfl)) (by kernel_rfl) rfl (by kernel_rfl) (by kernel_rfl) Tryz.underlying3) hk).mono fun e W' ⟨he, bel0⟩ => ?_
  have bel : Below W.heap.size W W' := bel0
  subst he
  exact ⟨_, rfl, _, _, _, [], _, [], hW', trodAll_mk1 (shut_bool Tryz.underlying4 _), (trodAll_cons_mk (Below.trod laidOut (by kernel_rfl) (of_decide_eq_true (by kernel_rfl)) k0 bel lt0) (trodAll_cons_mk (Below.trod laidOut (by kernel_rfl) (of_decide_eq_true (by kernel_rfl)) k1 bel lt1) trodAll_mk0)), rfl, bel.frame _, fun h => by cases h⟩
set_option maxRecDepth 100000 in
theorem lifted (os : Os) (started : os.Started) (H : Type) (enc : TypeId × Value → H) :
    ReturnsInHanded {} Tryz.checked os 3 .any (fun w args => (Rows.fnWalksGoSpec.pre enc Tryz.prog Tryz.f3 [] false w args ∧ laidMetH Tryz.prog laidList w) ∧ sizedMet enc Tryz.prog Tryz.f3 (OpenSpec.ofChange Rows.fnWalksGoSpec) false w args)
      (Rows.fnWalksGoSpec.post enc Tryz.prog Tryz.f3 false true false false) := by
  refine returnsInHanded_of_calls (C := Tryz.checked) own started (by kernel_rfl)
    (ChangeSpec.witness_at (enc := enc) (C := Tryz.checked) (os := os) (X := fun w _ => laidMetH Tryz.prog laidList w) false (laidWorld os) #[.slice none 0 0, .slice none 0 0] 8 rfl (by kernel_rfl) (by kernel_rfl) (by kernel_rfl) (by kernel_rfl) (by kernel_rfl) (laidWorld_met os _)) ?_
  intro w tape i _ hsh _ hok hpre _
  obtain ⟨_, _, _, fn', hfn', _, _, _, _, hval⟩ := hok
  obtain rfl : fn' = Tryz.f3 := Option.some.inj (hfn'.symm.trans Tryz.func3)
  obtain ⟨⟨⟨ds, gs, before, hw, _⟩, _⟩, _⟩ := hpre
  refine (core H enc (w.forCall tape i) w.heap.size i.args ds gs before hval (DataW.Whole.of_heap (w' := w.forCall tape i) (by rfl) hw) hsh).mono fun e W' ⟨v, he, hp⟩ => ?_
  subst he
  exact ChangeSpec.post_blind hp
theorem over : Rows.fnWalksGoRow.holds Tryz.pinned (OpenSpec.ofChange Rows.fnWalksGoSpec) :=
  OpenClaim.holds_of_wide 3 Tryz.f3 rfl rfl rfl rfl rfl rfl rfl ⟨rfl, rfl, rfl, rfl, rfl⟩ rfl rfl rfl rfl rfl (by kernel_rfl) Tryz.func3 (by kernel_rfl)
    (of_decide_eq_true (by kernel_rfl)) (by unfold Func.isWrapper; first | (rw [if_pos (by decide +kernel)]; kernel_rfl) | (rw [if_neg (by decide +kernel)]; exact ⟨rfl, rfl⟩))
    (fun os started H enc _ => lifted os started H enc)
theorem proved : Rows.FnWalksGoSaid := over
theorem card : Rows.FnWalksGoCardSaid :=
  Claim7.holds_tied_plain_at .later [] [.data, .pinned] true (true, "491eeed4fe1ed52be9c5e73e4201b7c6fbccce755fa09d647bfd572b49dc7f8f") false
    proved (fun _ h => by cases h) (by kernel_rfl) (fun _ h => by cases h) fnWalksGo_row_tie rfl ⟨rfl, rfl⟩ (by kernel_rfl) rfl
    (fun f fn hf hfn => by
      obtain rfl : f = 3 := Option.some.inj ((show Tryz.prog.funcNamed "loop.example/g01350/laws.FnWalksGo" = some 3 by kernel_rfl).symm.trans hf) |>.symm
      obtain rfl : fn = Tryz.f3 := (Option.some.inj (Tryz.func3.symm.trans hfn)).symm
      exact ⟨by kernel_rfl, fun j t ht => by
        rw [Tryz.params3] at ht
        have hm : t ∈ #[22, 22] := Array.mem_of_getElem? ht
        have hm : t ∈ [22, 22] := by simpa using hm
        have hall : ([22, 22].all fun u => !Tryz.prog.wantsStandIn u) = true := by kernel_rfl
        exact (show Tryz.prog.wantsStandIn t = false by simpa using List.all_eq_true.1 hall t hm)⟩)
    (by kernel_rfl)
#print axioms card
end Go.Proofs.YtffbfkfbeggdnaaGreatDoor.fnWalksGo
namespace Go.Proofs.YtffbfkfbeggdnaaGreatDoor
theorem fnWalksGo_holds : Rows.FnWalksGoCardSaid := fnWalksGo.card
end Go.Proofs.YtffbfkfbeggdnaaGreatDoor
