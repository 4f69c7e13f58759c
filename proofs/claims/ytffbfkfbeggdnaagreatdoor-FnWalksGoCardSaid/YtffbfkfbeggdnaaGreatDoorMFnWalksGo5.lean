/- Part 5 of 6 of the proof of: FnWalksGoCardSaid: the law 'FnWalksGo' answers true for every input, and leaves its arguments as they were. The row and its tied card, over the walk of its calls and the pure statement. -/
import Derived.Test.YtffbfkfbeggdnaaGreatDoorMFnWalksGo1
import Derived.Test.YtffbfkfbeggdnaaGreatDoorMFnWalksGo2
import Derived.Test.YtffbfkfbeggdnaaGreatDoorMFnWalksGo3
import Derived.Test.YtffbfkfbeggdnaaGreatDoorMFnWalksGo4
import Derived.Test.YtffbfkfbeggdnaaGreatDoorMFnWalksGoW
import Derived.Laws.Strings
import Derived.Lib.SlTrimSet
import Derived.Lib.Bytealg
-- printed by xprint.py
namespace Go.Proofs.YtffbfkfbeggdnaaGreatDoor.P
open Go.RowKit Go.Proofs.YtffbfkfbeggdnaaGreatDoorW.PrintWords Go.Proofs.YtffbfkfbeggdnaaGreatDoorW.PrintLast Go.Proofs.YtffbfkfbeggdnaaGreatDoorW.PrintMore
attribute [local go_sem] max2_int min2_int max_two min_two max_three min_three max_four min_four
set_option linter.unusedVariables false
set_option linter.unusedSimpArgs false

theorem iter_split {b : Nat} {w W : World} {s : ByteArray} (hB : Below b w W) (hb : b ≤ W.heap.size) : ∃ g wi,g = W.heap.size ∧ wi = W.iter s 0 ∧ wi.heap[g]? = some (.stringIter s 0) ∧ Below b w wi ∧ b ≤ g :=
 ⟨_,_,rfl,rfl,World.iter_heap _ _ _,hB.alloc hb _,hb⟩
theorem run_next_atI {P : Program} {w : World} {g : Nat} {s : ByteArray} {x : Int} (ty : TypeId) (h0 : 0 ≤ x) (hg : w.heap[g]? = some (.stringIter s x.toNat)) (h : x < (s.size : Int)) (ha : bt s x < 128) :
  (Instr.next (.pointer (some ⟨g,0,none⟩)) true ty).run P w = .ok (.tuple #[.bool true,.int .i64 x,.int .i32 (bt s x)]) (iterAt w g s (x.toNat + 1)) := by
 have hl : x.toNat < s.size := by omega
 have hb : bt s x = ((s[x.toNat]'hl).toNat : Int) := by unfold bt; rw [dif_pos hl]
 rw [hb] at ha ⊢; have := run_next_at (P := P) ty hg hl (by omega); rw [this]; simp only [Int.toNat_of_nonneg h0]
theorem run_next_stopI {P : Program} {w : World} {g : Nat} {s : ByteArray} {x : Int} (ty : TypeId) (h0 : 0 ≤ x) (hg : w.heap[g]? = some (.stringIter s x.toNat)) (h : ¬ x < (s.size : Int)) :
  (Instr.next (.pointer (some ⟨g,0,none⟩)) true ty).run P w = .ok (.tuple #[.bool false]) w := run_next_stop ty hg (by omega)
theorem step_ok {s : ByteArray} {x : Int} (h0 : 0 ≤ x) (h : x < (s.size : Int)) (hz : s.size ≤ 1048576) : wrap64 (x + 1) = x + 1 := IntWalk.wrap64_in _ ⟨by omega,by omega⟩
theorem next_nat {x : Int} (h0 : 0 ≤ x) : (x + 1).toNat = x.toNat + 1 := by omega
mutual
def laws_FnWalksGo.j0 : Nat → List Int → ByteArray → ByteArray → Int → Int → Bool → ByteArray → Bool → Int → Bool → Bool → Option (Bool)
 | 0,_,_,_,_,_,_,_,_,_,_,_ => none
 | k + 1,x1,x5,x6,x7,x8,x9,x12,x13,x16,x17,x164 => if x164 = true then none else (if x13 = true then (laws_FnWalksGo.l0 k x1 x5 x6 x7 x8 x9 x12 x16 x17 x12 0) else (laws_FnWalksGo.j2 k x1 x5 x7 x8 x9 x12 x16 x17))
def laws_FnWalksGo.j2 : Nat → List Int → ByteArray → Int → Int → Bool → ByteArray → Int → Bool → Option (Bool)
 | 0,_,_,_,_,_,_,_,_ => none
 | k + 1,x1,x5,x7,x8,x9,x12,x16,x17 => if x9 = true then (laws_FnWalksGo.j3 k x1 x5 x7 x8 x12 x16 x17 (decide (x7 > 1))) else (laws_FnWalksGo.j3 k x1 x5 x7 x8 x12 x16 x17 false)
def laws_FnWalksGo.j3 : Nat → List Int → ByteArray → Int → Int → ByteArray → Int → Bool → Bool → Option (Bool)
 | 0,_,_,_,_,_,_,_,_ => none
 | k + 1,x1,x5,x7,x8,x12,x16,x17,x216 => if x216 = true then (laws_FnWalksGo.l1 k x1 x5 x7 x8 x12 x16 x17 0 x12 0) else (laws_FnWalksGo.j5 k x1 x5 x7 x16 x17)
def laws_FnWalksGo.j5 : Nat → List Int → ByteArray → Int → Int → Bool → Option (Bool)
 | 0,_,_,_,_,_ => none
 | k + 1,x1,x5,x7,x16,x17 => if x17 = true then (laws_FnWalksGo.l2 k x1 x5 x7 x16 0 0) else (laws_FnWalksGo.j7 k x1)
def laws_FnWalksGo.j7 : Nat → List Int → Option (Bool)
 | 0,_ => none
 | k + 1,x1 => (spec_DrawNumberOfRank.f k x1).bind fun bt127 => ((impl_NumberOfRank.f k bt127.1 bt127.2.1 bt127.2.2.1 bt127.2.2.2).bind fun bt131 => ((spec_NumberOfRank.f k bt127.1 bt127.2.1 bt127.2.2.1 bt127.2.2.2).bind fun bt133 => ((spec_DrawRankOfNumber.f k x1).bind fun bt135 => ((impl_RankOfNumber.f k bt135.1 bt135.2).bind fun bt137 => ((spec_RankOfNumber.f k bt135.1 bt135.2).bind fun bt139 => ((impl_IsWalk.f k bt135.1 bt135.2).bind fun bt141 => ((spec_IsWalk.f k bt135.1 bt135.2).bind fun bt143 => ((spec_DrawCountBetween.f k x1).bind fun bt145 => ((impl_CountBetween.f k bt145.1 bt145.2.1 bt145.2.2.1 bt145.2.2.2).bind fun bt149 => ((spec_CountBetween.f k bt145.1 bt145.2.1 bt145.2.2.1 bt145.2.2.2).bind fun bt151 => ((spec_DrawBusiestKey.f k x1).bind fun bt153 => ((impl_BusiestKey.f k bt153.1 bt153.2).bind fun bt155 => ((spec_BusiestKey.f k bt153.1 bt153.2).bind fun bt158 => ((spec_DrawCountRounds.f k x1).bind fun bt161 => ((impl_CountRounds.f k bt161.1 bt161.2.1 bt161.2.2).bind fun bt164 => ((spec_CountRounds.f k bt161.1 bt161.2.1 bt161.2.2).bind fun bt166 => (if (bt131.2 != bt133.2) = true then (laws_FnWalksGo.j8 k bt127.1 bt127.2.1 bt127.2.2.1 bt127.2.2.2 bt131.1 bt131.2 bt135.1 bt135.2 bt137.1 bt137.2 bt145.1 bt145.2.1 bt145.2.2.1 bt145.2.2.2 bt149.1 bt149.2 bt161.1 bt161.2.1 bt161.2.2 bt164.1 bt164.2 true) else (if bt131.1.toList = bt133.1.toList then (if (bt137.2 != bt139.2) = true then (laws_FnWalksGo.j8 k bt127.1 bt127.2.1 bt127.2.2.1 bt127.2.2.2 bt131.1 bt131.2 bt135.1 bt135.2 bt137.1 bt137.2 bt145.1 bt145.2.1 bt145.2.2.1 bt145.2.2.2 bt149.1 bt149.2 bt161.1 bt161.2.1 bt161.2.2 bt164.1 bt164.2 true) else (if bt137.1 = bt139.1 then (if (bt141.2 != bt143.2) = true then (laws_FnWalksGo.j8 k bt127.1 bt127.2.1 bt127.2.2.1 bt127.2.2.2 bt131.1 bt131.2 bt135.1 bt135.2 bt137.1 bt137.2 bt145.1 bt145.2.1 bt145.2.2.1 bt145.2.2.2 bt149.1 bt149.2 bt161.1 bt161.2.1 bt161.2.2 bt164.1 bt164.2 true) else (if (bt141.1 != bt143.1) = true then (laws_FnWalksGo.j8 k bt127.1 bt127.2.1 bt127.2.2.1 bt127.2.2.2 bt131.1 bt131.2 bt135.1 bt135.2 bt137.1 bt137.2 bt145.1 bt145.2.1 bt145.2.2.1 bt145.2.2.2 bt149.1 bt149.2 bt161.1 bt161.2.1 bt161.2.2 bt164.1 bt164.2 true) else (if (bt149.2 != bt151.2) = true then (laws_FnWalksGo.j8 k bt127.1 bt127.2.1 bt127.2.2.1 bt127.2.2.2 bt131.1 bt131.2 bt135.1 bt135.2 bt137.1 bt137.2 bt145.1 bt145.2.1 bt145.2.2.1 bt145.2.2.2 bt149.1 bt149.2 bt161.1 bt161.2.1 bt161.2.2 bt164.1 bt164.2 true) else (if bt149.1 = bt151.1 then (if (bt155.2.2 != bt158.2.2) = true then (laws_FnWalksGo.j8 k bt127.1 bt127.2.1 bt127.2.2.1 bt127.2.2.2 bt131.1 bt131.2 bt135.1 bt135.2 bt137.1 bt137.2 bt145.1 bt145.2.1 bt145.2.2.1 bt145.2.2.2 bt149.1 bt149.2 bt161.1 bt161.2.1 bt161.2.2 bt164.1 bt164.2 true) else (if bt155.1.toList = bt158.1.toList then (if bt155.2.1 = bt158.2.1 then (if (bt164.2 != bt166.2) = true then (laws_FnWalksGo.j8 k bt127.1 bt127.2.1 bt127.2.2.1 bt127.2.2.2 bt131.1 bt131.2 bt135.1 bt135.2 bt137.1 bt137.2 bt145.1 bt145.2.1 bt145.2.2.1 bt145.2.2.2 bt149.1 bt149.2 bt161.1 bt161.2.1 bt161.2.2 bt164.1 bt164.2 true) else (if bt164.1 = bt166.1 then (if bt137.2 = true then (if bt141.2 = true then (laws_FnWalksGo.j8 k bt127.1 bt127.2.1 bt127.2.2.1 bt127.2.2.2 bt131.1 bt131.2 bt135.1 bt135.2 bt137.1 bt137.2 bt145.1 bt145.2.1 bt145.2.2.1 bt145.2.2.2 bt149.1 bt149.2 bt161.1 bt161.2.1 bt161.2.2 bt164.1 bt164.2 (!bt141.1)) else (laws_FnWalksGo.j8 k bt127.1 bt127.2.1 bt127.2.2.1 bt127.2.2.2 bt131.1 bt131.2 bt135.1 bt135.2 bt137.1 bt137.2 bt145.1 bt145.2.1 bt145.2.2.1 bt145.2.2.2 bt149.1 bt149.2 bt161.1 bt161.2.1 bt161.2.2 bt164.1 bt164.2 (!false))) else (laws_FnWalksGo.j8 k bt127.1 bt127.2.1 bt127.2.2.1 bt127.2.2.2 bt131.1 bt131.2 bt135.1 bt135.2 bt137.1 bt137.2 bt145.1 bt145.2.1 bt145.2.2.1 bt145.2.2.2 bt149.1 bt149.2 bt161.1 bt161.2.1 bt161.2.2 bt164.1 bt164.2 false)) else (laws_FnWalksGo.j8 k bt127.1 bt127.2.1 bt127.2.2.1 bt127.2.2.2 bt131.1 bt131.2 bt135.1 bt135.2 bt137.1 bt137.2 bt145.1 bt145.2.1 bt145.2.2.1 bt145.2.2.2 bt149.1 bt149.2 bt161.1 bt161.2.1 bt161.2.2 bt164.1 bt164.2 true))) else (laws_FnWalksGo.j8 k bt127.1 bt127.2.1 bt127.2.2.1 bt127.2.2.2 bt131.1 bt131.2 bt135.1 bt135.2 bt137.1 bt137.2 bt145.1 bt145.2.1 bt145.2.2.1 bt145.2.2.2 bt149.1 bt149.2 bt161.1 bt161.2.1 bt161.2.2 bt164.1 bt164.2 true)) else (laws_FnWalksGo.j8 k bt127.1 bt127.2.1 bt127.2.2.1 bt127.2.2.2 bt131.1 bt131.2 bt135.1 bt135.2 bt137.1 bt137.2 bt145.1 bt145.2.1 bt145.2.2.1 bt145.2.2.2 bt149.1 bt149.2 bt161.1 bt161.2.1 bt161.2.2 bt164.1 bt164.2 true))) else (laws_FnWalksGo.j8 k bt127.1 bt127.2.1 bt127.2.2.1 bt127.2.2.2 bt131.1 bt131.2 bt135.1 bt135.2 bt137.1 bt137.2 bt145.1 bt145.2.1 bt145.2.2.1 bt145.2.2.2 bt149.1 bt149.2 bt161.1 bt161.2.1 bt161.2.2 bt164.1 bt164.2 true))))) else (laws_FnWalksGo.j8 k bt127.1 bt127.2.1 bt127.2.2.1 bt127.2.2.2 bt131.1 bt131.2 bt135.1 bt135.2 bt137.1 bt137.2 bt145.1 bt145.2.1 bt145.2.2.1 bt145.2.2.2 bt149.1 bt149.2 bt161.1 bt161.2.1 bt161.2.2 bt164.1 bt164.2 true))) else (laws_FnWalksGo.j8 k bt127.1 bt127.2.1 bt127.2.2.1 bt127.2.2.2 bt131.1 bt131.2 bt135.1 bt135.2 bt137.1 bt137.2 bt145.1 bt145.2.1 bt145.2.2.1 bt145.2.2.2 bt149.1 bt149.2 bt161.1 bt161.2.1 bt161.2.2 bt164.1 bt164.2 true)))))))))))))))))))
def laws_FnWalksGo.j8 : Nat → ByteArray → ByteArray → Int → Int → ByteArray → Bool → ByteArray → ByteArray → Int → Bool → ByteArray → ByteArray → ByteArray → Int → Int → Bool → ByteArray → ByteArray → Int → Int → Bool → Bool → Option (Bool)
 | 0,_,_,_,_,_,_,_,_,_,_,_,_,_,_,_,_,_,_,_,_,_,_ => none
 | k + 1,x34,x35,x36,x37,x38,x39,x42,x43,x44,x45,x52,x53,x54,x55,x56,x57,x68,x69,x70,x71,x72,x477 => if x477 = true then none else (if x39 = true then ((impl_RankOfNumber.f k x34 x38).bind fun bt168 => (if bt168.2 = true then (if bt168.1 = x37 then (if (x38.size : Int) = x36 then (if 0 ≤ 1 then (if 1 ≤ (x38.size : Int) then (if (x38.extract 0 1).toList = x35.toList then (laws_FnWalksGo.j9 k x42 x43 x44 x45 x52 x53 x54 x55 x56 x57 x68 x69 x70 x71 x72) else none) else (none)) else (none)) else none) else none) else none)) else (laws_FnWalksGo.j9 k x42 x43 x44 x45 x52 x53 x54 x55 x56 x57 x68 x69 x70 x71 x72))
def laws_FnWalksGo.j9 : Nat → ByteArray → ByteArray → Int → Bool → ByteArray → ByteArray → ByteArray → Int → Int → Bool → ByteArray → ByteArray → Int → Int → Bool → Option (Bool)
 | 0,_,_,_,_,_,_,_,_,_,_,_,_,_,_,_ => none
 | k + 1,x42,x43,x44,x45,x52,x53,x54,x55,x56,x57,x68,x69,x70,x71,x72 => if x45 = true then (if 0 ≤ 1 then (if 1 ≤ (x43.size : Int) then ((impl_NumberOfRank.f k x42 (x43.extract 0 1) (x43.size : Int) x44).bind fun bt170 => (if bt170.2 = true then (if bt170.1.toList = x43.toList then (laws_FnWalksGo.j10 k x52 x53 x54 x55 x56 x57 x68 x69 x70 x71 x72) else none) else none)) else (none)) else (none)) else (laws_FnWalksGo.j10 k x52 x53 x54 x55 x56 x57 x68 x69 x70 x71 x72)
def laws_FnWalksGo.j10 : Nat → ByteArray → ByteArray → ByteArray → Int → Int → Bool → ByteArray → ByteArray → Int → Int → Bool → Option (Bool)
 | 0,_,_,_,_,_,_,_,_,_,_,_ => none
 | k + 1,x52,x53,x54,x55,x56,x57,x68,x69,x70,x71,x72 => if x57 = true then ((impl_CountBetween.f k x52 x54 x53 x55).bind fun bt172 => (if bt172.2 = true then (if bt172.1 = x56 then (if x55 = 0 then (if ((x56 == 1) != (x53.toList == x54.toList)) = true then none else (laws_FnWalksGo.j11 k x68 x69 x70 x71 x72)) else (laws_FnWalksGo.j11 k x68 x69 x70 x71 x72)) else none) else none)) else (laws_FnWalksGo.j11 k x68 x69 x70 x71 x72)
def laws_FnWalksGo.j11 : Nat → ByteArray → ByteArray → Int → Int → Bool → Option (Bool)
 | 0,_,_,_,_,_ => none
 | k + 1,x68,x69,x70,x71,x72 => if x72 = true then ((impl_CountBetween.f k x68 x69 x69 x70).bind fun bt174 => (if bt174.2 = true then (if bt174.1 = x71 then (if x68.toList = ([110] : List UInt8) then (if (Int.tmod x70 2) = 1 then (if x71 = 0 then (some true) else none) else (some true)) else (some true)) else none) else none)) else (some true)
def laws_FnWalksGo.l2 : Nat → List Int → ByteArray → Int → Int → Int → Int → Option (Bool)
 | 0,_,_,_,_,_,_ => none
 | k + 1,x1,x5,x7,x16,x27,x28 => if x28 < 10 then (if 0 ≤ x28 then (if x28 ≤ (wrap64 (x28 + 1)) then (if (wrap64 (x28 + 1)) ≤ 10 then ((impl_CountNumbers.f k x5 ((⟨#[48,49,50,51,52,53,54,55,56,57]⟩ : ByteArray).extract (x28 : Int).toNat ((wrap64 (x28 + 1)) : Int).toNat) x7).bind fun bt122 => (if bt122.2 = true then (laws_FnWalksGo.l2 k x1 x5 x7 x16 (wrap64 (x27 + bt122.1)) (wrap64 (x28 + 1))) else none)) else (none)) else (none)) else (none)) else ((impl_BusiestKey.f k x5 x7).bind fun bt124 => (if x27 = x16 then (if x7 ≤ 20 then (if bt124.2.2 = true then (if (wrap64 (bt124.2.1 * 10)) < x16 then none else (if (bt124.1.size : Int) = 1 then (laws_FnWalksGo.j7 k x1) else none)) else none) else (laws_FnWalksGo.j7 k x1)) else none))
def laws_FnWalksGo.l1 : Nat → List Int → ByteArray → Int → Int → ByteArray → Int → Bool → Int → ByteArray → Int → Option (Bool)
 | 0,_,_,_,_,_,_,_,_,_,_ => none
 | k + 1,x1,x5,x7,x8,x12,x16,x17,x23,x217,x218 => if x218 < (x217.size : Int) then (if (bt x217 x218) < 128 ∧ x217.size ≤ 1048576 then (if 0 ≤ x218 then (if x218 ≤ (wrap64 (x218 + 1)) then (if (wrap64 (x218 + 1)) ≤ (x12.size : Int) then ((impl_CountNumbers.f k x5 (x12.extract (x218 : Int).toNat ((wrap64 (x218 + 1)) : Int).toNat) (wrap64 (x7 - 1))).bind fun bt120 => (if bt120.2 = true then (laws_FnWalksGo.l1 k x1 x5 x7 x8 x12 x16 x17 (wrap64 (x23 + bt120.1)) x217 (wrap64 (x218 + 1))) else none)) else (none)) else (none)) else (none)) else none) else (if x23 = x8 then (laws_FnWalksGo.j5 k x1 x5 x7 x16 x17) else none)
def laws_FnWalksGo.l0 : Nat → List Int → ByteArray → ByteArray → Int → Int → Bool → ByteArray → Int → Bool → ByteArray → Int → Option (Bool)
 | 0,_,_,_,_,_,_,_,_,_,_,_ => none
 | k + 1,x1,x5,x6,x7,x8,x9,x12,x16,x17,x166,x167 => if x167 < (x166.size : Int) then (if (bt x166 x167) < 128 ∧ x166.size ≤ 1048576 then (if 0 ≤ x167 then (if x167 ≤ (wrap64 (x167 + 1)) then (if (wrap64 (x167 + 1)) ≤ (x12.size : Int) then ((impl_NextKeys.f k x5 (x12.extract (x167 : Int).toNat ((wrap64 (x167 + 1)) : Int).toNat)).bind fun bt117 => (if bt117.2 = true then (if 0 < (x6.size : Int) then ((laws_fSign.f k bt117.1 (bt x6 0)).bind fun t119 => (if t119 = true then (if x167 < (x12.size : Int) then (if (bt x12 x167) = (bt x6 0) then none else (if x167 > 0 then (if 0 ≤ (wrap64 (x167 - 1)) then (if (wrap64 (x167 - 1)) < (x12.size : Int) then (if (bt x12 (wrap64 (x167 - 1))) ≥ (bt x12 x167) then none else (laws_FnWalksGo.l0 k x1 x5 x6 x7 x8 x9 x12 x16 x17 x166 (wrap64 (x167 + 1)))) else (none)) else (none)) else (laws_FnWalksGo.l0 k x1 x5 x6 x7 x8 x9 x12 x16 x17 x166 (wrap64 (x167 + 1))))) else (none)) else none)) else (none)) else none)) else (none)) else (none)) else (none)) else none) else (laws_FnWalksGo.j2 k x1 x5 x7 x8 x9 x12 x16 x17)
end
def laws_FnWalksGo.f (k : Nat) (l0 : List Int) (l1 : List Int) : Option (Bool) := (laws_big.f l0 l1).bind fun t101 => (if t101 = true then (some true) else ((spec_DrawCountNumbers.f k l0).bind fun bt102 => ((impl_CountNumbers.f k bt102.1 bt102.2.1 bt102.2.2).bind fun bt105 => ((spec_CountNumbers.f k bt102.1 bt102.2.1 bt102.2.2).bind fun bt107 => ((impl_NextKeys.f k bt102.1 bt102.2.1).bind fun bt109 => ((spec_NextKeys.f k bt102.1 bt102.2.1).bind fun bt111 => ((impl_CountAllNumbers.f k bt102.1 bt102.2.2).bind fun bt113 => ((spec_CountAllNumbers.f k bt102.1 bt102.2.2).bind fun bt115 => (if (bt105.2 != bt107.2) = true then (laws_FnWalksGo.j0 k l1 bt102.1 bt102.2.1 bt102.2.2 bt105.1 bt105.2 bt109.1 bt109.2 bt113.1 bt113.2 true) else (if bt105.1 = bt107.1 then (if (bt109.2 != bt111.2) = true then (laws_FnWalksGo.j0 k l1 bt102.1 bt102.2.1 bt102.2.2 bt105.1 bt105.2 bt109.1 bt109.2 bt113.1 bt113.2 true) else (if bt109.1.toList = bt111.1.toList then (if (bt113.2 != bt115.2) = true then (laws_FnWalksGo.j0 k l1 bt102.1 bt102.2.1 bt102.2.2 bt105.1 bt105.2 bt109.1 bt109.2 bt113.1 bt113.2 true) else (if bt113.1 = bt115.1 then (if bt105.2 = true then (laws_FnWalksGo.j0 k l1 bt102.1 bt102.2.1 bt102.2.2 bt105.1 bt105.2 bt109.1 bt109.2 bt113.1 bt113.2 (!bt109.2)) else (laws_FnWalksGo.j0 k l1 bt102.1 bt102.2.1 bt102.2.2 bt105.1 bt105.2 bt109.1 bt109.2 bt113.1 bt113.2 false)) else (laws_FnWalksGo.j0 k l1 bt102.1 bt102.2.1 bt102.2.2 bt105.1 bt105.2 bt109.1 bt109.2 bt113.1 bt113.2 true))) else (laws_FnWalksGo.j0 k l1 bt102.1 bt102.2.1 bt102.2.2 bt105.1 bt105.2 bt109.1 bt109.2 bt113.1 bt113.2 true))) else (laws_FnWalksGo.j0 k l1 bt102.1 bt102.2.1 bt102.2.2 bt105.1 bt105.2 bt109.1 bt109.2 bt113.1 bt113.2 true)))))))))))
def laws_FnWalksGo.T17 : Bool × List (List Nat × List Nat) := (true,[([],[]),([0],[0]),([1],[1]),([2],[2]),([2],[2]),([4,2],[2,4]),([3,5,2,2],[2,3,5]),([6,2],[2,6]),([2,7],[2,7]),([8,6],[8]),([9],[9]),([9],[9]),([10,11,9],[9,10,11]),([9],[9]),([13,9],[9,13]),([12,14,9],[9,12,14]),([9,15],[9,15]),([16,9],[16]),([17],[17]),([18,17],[17,18]),([19,17,17],[17,19]),([20],[20]),([20],[20]),([22,20],[20,22]),([21,23,20],[20,21,23]),([20],[20]),([20],[20]),([25,26,20],[20,25,26]),([24,27,20],[20,24,27]),([20,28,17],[17,20,28]),([17,29],[17,29])])
def laws_FnWalksGo.B17 : List Nat := [0,1,3,7,7,23,63,127,255,511,1023,1023,4095,1023,9215,32767,65535,131071,262143,524287,1048575,2097151,2097151,6291455,16777215,2097151,2097151,102760447,268435455,536870911,1073741823]
theorem laws_FnWalksGo.tab17 : rtab .any (opsOf Tryz.f3 17) = laws_FnWalksGo.T17 := by kernel_rfl
theorem laws_FnWalksGo.bits17 : waitsOk laws_FnWalksGo.T17.2 laws_FnWalksGo.B17 = true := by kernel_rfl
theorem laws_FnWalksGo.j0_none : ∀ k z0 z1 z2 z3 z4 z5 z6 z7 z8 z9,laws_FnWalksGo.j0 k z0 z1 z2 z3 z4 z5 z6 z7 z8 z9 true = none := by
 intro k z0 z1 z2 z3 z4 z5 z6 z7 z8 z9
 cases k <;> simp [laws_FnWalksGo.j0]
theorem laws_FnWalksGo.j8_none : ∀ k z0 z1 z2 z3 z4 z5 z6 z7 z8 z9 z10 z11 z12 z13 z14 z15 z16 z17 z18 z19 z20,laws_FnWalksGo.j8 k z0 z1 z2 z3 z4 z5 z6 z7 z8 z9 z10 z11 z12 z13 z14 z15 z16 z17 z18 z19 z20 true = none := by
 intro k z0 z1 z2 z3 z4 z5 z6 z7 z8 z9 z10 z11 z12 z13 z14 z15 z16 z17 z18 z19 z20
 cases k <;> simp [laws_FnWalksGo.j8]
/-- What follows the first n statements. -/
def tailC : Nat → Code → Code
 | 0,c => c
 | n + 1,.seq _ b => tailC n b
 | _,c => c
theorem wp_lit {P : Program} {C a b : Code} {Q : Exit → Act → World → Prop} {x : Act} {w : World} (h : C = .seq a b) (g : Code.wp P (.seq a b) Q x w) : Code.wp P C Q x w := by subst h; exact g
set_option maxHeartbeats 8000000 in
set_option maxRecDepth 100000 in
theorem laws_FnWalksGo.tail_j9 {A0 : Option Addr} {c0 : Nat} {l0 : List Int} {A1 : Option Addr} {c1 : Nat} {l1 : List Int} {r : Bool} {w wc : World} {ml_ : Int} {kq kt_ : Nat} {t135 : ByteArray} {t136 : ByteArray} {t137 : Int} {t138 : Bool} {t145 : ByteArray} {t146 : ByteArray} {t147 : ByteArray} {t148 : Int} {t149 : Int} {t150 : Bool} {t161 : ByteArray} {t162 : ByteArray} {t163 : Int} {t164 : Int} {t165 : Bool} {u4 u5 u6 u7 u8 u9 u10 u11 u12 u13 u14 u15 u16 u17 u18 u19 u20 u21 u22 u23 u24 u25 u26 u27 u28 u29 u30 u31 u32 u33 u34 u35 u36 u37 u38 u39 u40 u41 u46 u47 u48 u49 u50 u51 u58 u59 u60 u61 u62 u63 u64 u65 u66 u67 u73 u74 u75 u76 u83 u84 u85 u86 u87 u88 u89 u90 u91 u92 u93 u94 u95 u96 u97 u98 u99 u100 u101 u102 u103 u104 u105 u106 u107 u108 u109 u110 u111 u112 u113 u114 u115 u116 u117 u118 u119 u120 u121 u122 u123 u124 u125 u126 u127 u128 u129 u130 u131 u132 u133 u134 u135 u136 u137 u138 u139 u140 u141 u142 u143 u144 u145 u146 u147 u148 u149 u150 u151 u152 u153 u154 u155 u156 u157 u158 u159 u160 u161 u162 u163 u164 u165 u166 u167 u168 u169 u170 u171 u172 u173 u174 u175 u176 u177 u178 u179 u180 u181 u182 u183 u184 u185 u186 u187 u188 u189 u190 u191 u192 u193 u194 u195 u196 u197 u198 u199 u200 u201 u202 u203 u204 u205 u206 u207 u208 u209 u210 u211 u212 u213 u214 u215 u216 u217 u218 u219 u220 u221 u222 u223 u224 u225 u226 u227 u228 u229 u230 u231 u232 u233 u234 u235 u236 u237 u238 u239 u240 u241 u242 u243 u244 u245 u246 u247 u248 u249 u250 u251 u252 u253 u254 u255 u256 u257 u258 u259 u260 u261 u262 u263 u264 u265 u266 u267 u268 u269 u270 u271 u272 u273 u274 u275 u276 u277 u278 u279 u280 u281 u282 u283 u284 u285 u286 u287 u288 u289 u290 u291 u292 u293 u294 u295 u296 u297 u298 u299 u300 u301 u302 u303 u304 u305 u306 u307 u308 u309 u310 u311 u312 u313 u314 u315 u316 u317 u318 u319 u320 u321 u322 u323 u324 u325 u326 u327 u328 u329 u330 u331 u332 u333 u334 u335 u336 u337 u338 u339 u340 u341 u342 u343 u344 u345 u346 u347 u348 u349 u350 u351 u352 u353 u354 u355 u356 u357 u358 u359 u360 u361 u362 u363 u364 u365 u366 u367 u368 u369 u370 u371 u372 u373 u374 u375 u376 u377 u378 u379 u380 u381 u382 u383 u384 u385 u386 u387 u388 u389 u390 u391 u392 u393 u394 u395 u396 u397 u398 u399 u400 u401 u402 u403 u404 u405 u406 u407 u408 u409 u410 u411 u412 u413 u414 u415 u416 u417 u418 u419 u420 u421 u422 u423 u424 u425 u426 u427 u428 u429 u430 u431 u432 u433 u434 u435 u436 u437 u438 u439 u440 u441 u442 u443 u444 u445 u446 u447 u448 u449 u450 u451 u452 u453 u454 u455 u456 u457 u458 u459 u460 u461 u462 u463 u464 u465 u466 u467 u468 u469 u470 u471 u472 u473 u474 u475 u476 u477 u478 u479 u480 u481 u482 u483 u484 u485 u486 u487 u488 u489 u490 u491 u492 u493 u494 u495 u496 u497 u498 u499 u500 u501 u502 u503 : Value} (HML : Aside0 (w.cell? ⟨0,0,none⟩ = some (.int .i64 ml_)))  (HA : Aside0 (laws_FnWalksGo.j9 kq t135 t136 t137 t138 t145 t146 t147 t148 t149 t150 t161 t162 t163 t164 t165 = some r)) (HJ146 : Aside0 (kq ≤ kt_)) (HB : Aside0 (Below w.heap.size w wc)) :
  Code.wp Tryz.prog (tailC 32 (Tryz.f3.body.getD .skip)) (bodyPost Tryz.prog Tryz.f3 fun e w' => e = .returned (.bool r) ∧ Below w.heap.size w w') { tmps := #[Value.slice A0 l0.length c0,Value.slice A1 l1.length c1,undef,undef,u4,u5,u6,u7,u8,u9,u10,u11,u12,u13,u14,u15,u16,u17,u18,u19,u20,u21,u22,u23,u24,u25,u26,u27,u28,u29,u30,u31,u32,u33,u34,u35,u36,u37,u38,u39,u40,u41,Value.string t135,Value.string t136,Value.int .i64 t137,Value.bool t138,u46,u47,u48,u49,u50,u51,Value.string t145,Value.string t146,Value.string t147,Value.int .i64 t148,Value.int .i64 t149,Value.bool t150,u58,u59,u60,u61,u62,u63,u64,u65,u66,u67,Value.string t161,Value.string t162,Value.int .i64 t163,Value.int .i64 t164,Value.bool t165,u73,u74,u75,u76,undef,undef,undef,undef,undef,undef,u83,u84,u85,u86,u87,u88,u89,u90,u91,u92,u93,u94,u95,u96,u97,u98,u99,u100,u101,u102,u103,u104,u105,u106,u107,u108,u109,u110,u111,u112,u113,u114,u115,u116,u117,u118,u119,u120,u121,u122,u123,u124,u125,u126,u127,u128,u129,u130,u131,u132,u133,u134,u135,u136,u137,u138,u139,u140,u141,u142,u143,u144,u145,u146,u147,u148,u149,u150,u151,u152,u153,u154,u155,u156,u157,u158,u159,u160,u161,u162,u163,u164,u165,u166,u167,u168,u169,u170,u171,u172,u173,u174,u175,u176,u177,u178,u179,u180,u181,u182,u183,u184,u185,u186,u187,u188,u189,u190,u191,u192,u193,u194,u195,u196,u197,u198,u199,u200,u201,u202,u203,u204,u205,u206,u207,u208,u209,u210,u211,u212,u213,u214,u215,u216,u217,u218,u219,u220,u221,u222,u223,u224,u225,u226,u227,u228,u229,u230,u231,u232,u233,u234,u235,u236,u237,u238,u239,u240,u241,u242,u243,u244,u245,u246,u247,u248,u249,u250,u251,u252,u253,u254,u255,u256,u257,u258,u259,u260,u261,u262,u263,u264,u265,u266,u267,u268,u269,u270,u271,u272,u273,u274,u275,u276,u277,u278,u279,u280,u281,u282,u283,u284,u285,u286,u287,u288,u289,u290,u291,u292,u293,u294,u295,u296,u297,u298,u299,u300,u301,u302,u303,u304,u305,u306,u307,u308,u309,u310,u311,u312,u313,u314,u315,u316,u317,u318,u319,u320,u321,u322,u323,u324,u325,u326,u327,u328,u329,u330,u331,u332,u333,u334,u335,u336,u337,u338,u339,u340,u341,u342,u343,u344,u345,u346,u347,u348,u349,u350,u351,u352,u353,u354,u355,u356,u357,u358,u359,u360,u361,u362,u363,u364,u365,u366,u367,u368,u369,u370,u371,u372,u373,u374,u375,u376,u377,u378,u379,u380,u381,u382,u383,u384,u385,u386,u387,u388,u389,u390,u391,u392,u393,u394,u395,u396,u397,u398,u399,u400,u401,u402,u403,u404,u405,u406,u407,u408,u409,u410,u411,u412,u413,u414,u415,u416,u417,u418,u419,u420,u421,u422,u423,u424,u425,u426,u427,u428,u429,u430,u431,u432,u433,u434,u435,u436,u437,u438,u439,u440,u441,u442,u443,u444,u445,u446,u447,u448,u449,u450,u451,u452,u453,u454,u455,u456,u457,u458,u459,u460,u461,u462,u463,u464,u465,u466,u467,u468,u469,u470,u471,u472,u473,u474,u475,u476,u477,u478,u479,u480,u481,u482,u483,u484,u485,u486,u487,u488,u489,u490,u491,u492,u493,u494,u495,u496,u497,u498,u499,u500,u501,u502,u503,undef,undef,undef,undef,undef,undef,undef,undef,undef,undef,undef,undef,undef,undef,undef,undef,undef,undef,undef,undef,undef,undef,undef,undef,undef,undef,undef,undef,undef,undef,undef,undef,undef,undef,undef,undef,undef,undef,undef,undef,undef,undef,undef,undef,undef,undef,undef,undef,undef,undef,undef,undef,undef,undef,undef,undef,undef,undef,undef,undef,undef,undef,undef,undef,undef,undef,undef,undef,undef,undef,undef,undef,undef,undef,undef],defers := [] } wc := by
 refine wp_lit rfl ?_
 cases kq with
 | zero => exact absurd HA.out (by simp [laws_FnWalksGo.j9])
 | succ kj146 =>
  have H := HA.out; clear HA; simp only [laws_FnWalksGo.j9] at H; have HC161 := Aside0.mk H; clear H
  go_upto_if 504 with (fail)
  go_cut [] from 579 (fun wc => ∃ (kq : Nat),Aside0 (laws_FnWalksGo.j10 kq t145 t146 t147 t148 t149 t150 t161 t162 t163 t164 t165 = some r) ∧ Aside0 (kq ≤ kj146) ∧ Aside0 (Below w.heap.size w wc))
  case first =>
   (try dsimp only [List.append])
   have H := HC161.out; clear HC161
   by_cases c162 : t138 = true
   ·
    subst c162; have H1 : (if 0 ≤ 1 then (if 1 ≤ (t136.size : Int) then ((impl_NumberOfRank.f kj146 t135 (t136.extract 0 1) (t136.size : Int) t137).bind fun bt170 => (if bt170.2 = true then (if bt170.1.toList = t136.toList then (laws_FnWalksGo.j10 kj146 t145 t146 t147 t148 t149 t150 t161 t162 t163 t164 t165) else none) else none)) else (none)) else (none)) = some r := by rw [if_pos rfl] at H; exact H
    clear H; have H := H1; clear H1
    by_cases c163 : 0 ≤ 1
    ·
     rw [if_pos c163] at H; have c163b0 := eq_true c163; have c163b1 : decide (0 ≤ 1) = true := decide_eq_true c163; clear c163
     by_cases c164 : 1 ≤ (t136.size : Int)
     ·
      rw [if_pos c164] at H; have c164b0 := eq_true c164; have c164b1 : decide (1 ≤ (t136.size : Int)) = true := decide_eq_true c164; clear c164; replace H := Option.bind_eq_some_iff.mp H; obtain ⟨⟨t170,t171⟩,A1650,H⟩ := H; replace H : (if t171 = true then (if t170.toList = t136.toList then (laws_FnWalksGo.j10 kj146 t145 t146 t147 t148 t149 t150 t161 t162 t163 t164 t165) else none) else none) = some r := H; have A165 := Aside0.mk A1650; clear A1650
      by_cases c166 : t171 = true
      ·
       subst c166; have H1 : (if t170.toList = t136.toList then (laws_FnWalksGo.j10 kj146 t145 t146 t147 t148 t149 t150 t161 t162 t163 t164 t165) else none) = some r := by rw [if_pos rfl] at H; exact H
       clear H; have H := H1; clear H1
       by_cases c167 : t170.toList = t136.toList
       ·
        rw [if_pos c167] at H; have c167b0 : (t170.toList == t136.toList) = true := beq_iff_eq.mpr c167; have c167b1 : (t170.toList != t136.toList) = false := bne_eq_false_iff_eq.mpr c167; clear c167
        (first | rw [c167b0] | (simp only [i64_w,i32_w]; rw [c167b0]) | skip)
        have H' := Aside0.mk H; clear H; go_wp2_with (first | ((with_reducible refine gate_callee (f := 15) rfl ?_); refine goesL_ (some 512) rfl rfl Tryz.func15 (by kernel_rfl) rfl #[.string t135,.string (t136.extract 0 1),.int .i64 (t136.size : Int),.int .i64 t137] rfl zrr ?_; (with_reducible refine (impl_NumberOfRank.calls kj146 t135 (t136.extract 0 1) (t136.size : Int) t137 t170 true _ zhm A165.out).mono ?_); rintro e w168 ⟨rfl,hb⟩; refine ⟨_,rfl,?_⟩; have n0_ := Aside0.mk (below_step zbw hb); clear HB; have HB := n0_; clear n0_; (try clear hb); (try clear hb2); (try clear hk); (try clear hi)))
        go_meet
        case rel => exact ⟨_,H',⟨by have := HJ146.out; first | omega | exact Nat.le_refl _⟩,⟨zbw⟩⟩
       · rw [if_neg c167] at H; exact absurd H (by simp)
      ·
       replace c166 := Bool.eq_false_iff.mpr c166; subst c166; have H1 : (none : Option Bool) = some r := by rw [if_neg (show ¬ (false = true) by decide)] at H; exact H
       exact absurd H1 (by simp)
     · rw [if_neg c164] at H; exact absurd H (by simp)
    · rw [if_neg c163] at H; exact absurd H (by simp)
   ·
    replace c162 := Bool.eq_false_iff.mpr c162; subst c162; have H1 : (laws_FnWalksGo.j10 kj146 t145 t146 t147 t148 t149 t150 t161 t162 t163 t164 t165) = some r := by rw [if_neg (show ¬ (false = true) by decide)] at H; exact H
    clear H; have H := H1; clear H1; have H' := Aside0.mk H; clear H; go_wp2
    go_meet
    case rel => exact ⟨_,H',⟨by have := HJ146.out; first | omega | exact Nat.le_refl _⟩,⟨zbw⟩⟩
  case rest =>
   clear HC161; try clear c1
   try clear c2
   try clear p2
   try clear c3
   try clear p3
   try clear q3
   try clear hx3
   try clear qi3
   try clear p4
   try clear q4
   try clear hx4
   try clear qi4
   try clear c6
   try clear p6
   try clear c7
   try clear c8
   try clear c9
   try clear c12
   try clear c13
   try clear c14
   try clear c15
   try clear c16
   try clear c17
   try clear c18
   try clear c19
   try clear c20
   try clear c21
   try clear c22
   try clear c23
   try clear c24
   try clear c25
   try clear c26
   try clear c27
   try clear c28
   try clear c29
   try clear c29b0
   try clear c30
   try clear c31
   try clear c32
   try clear c34
   try clear c35
   try clear p36
   try clear q36
   try clear hx36
   try clear qi36
   try clear c38
   try clear c39
   try clear p40
   try clear q40
   try clear hx40
   try clear p41
   try clear q41
   try clear hx41
   try clear qi41
   try clear c63
   try clear p64
   try clear c65
   try clear c66
   try clear c66b0
   try clear c67
   try clear c67b0
   try clear c67b1
   try clear c68
   try clear c68b0
   try clear c68b1
   try clear c69
   try clear c69b0
   try clear c69b1
   try clear c71
   try clear c74
   try clear c74b0
   try clear c74b1
   try clear c76
   try clear c77
   try clear c77b0
   try clear c78
   try clear c78b0
   try clear c78b1
   try clear c79
   try clear c79b0
   try clear c79b1
   try clear c80
   try clear c80b0
   try clear c80b1
   try clear c82
   try clear c86
   try clear c86b0
   try clear c86b1
   try clear c87
   try clear c87b0
   try clear c88
   try clear c89
   try clear c89b0
   try clear c91
   try clear c91b0
   try clear c91b1
   try clear c131
   try clear c131b0
   try clear c131b1
   try clear c131b2
   try clear c132
   try clear c132b0
   try clear c132b1
   try clear c133
   try clear c133b0
   try clear c133b1
   try clear c133b2
   try clear c134
   try clear c134b0
   try clear c134b1
   try clear c135
   try clear c135b0
   try clear c135b1
   try clear c135b2
   try clear c136
   try clear c136b0
   try clear c136b1
   try clear c136b2
   try clear c137
   try clear c137b0
   try clear c137b1
   try clear c137b2
   try clear c138
   try clear c138b0
   try clear c138b1
   try clear c139
   try clear c139b0
   try clear c139b1
   try clear c139b2
   try clear c140
   try clear c140b0
   try clear c140b1
   try clear c141
   try clear c141b0
   try clear c141b1
   try clear c142
   try clear c142b0
   try clear c142b1
   try clear c142b2
   try clear c143
   try clear c143b0
   try clear c143b1
   try clear c144
   try clear c145
   try clear c146
   try clear c148
   try clear c150
   try clear c151
   try clear c151b0
   try clear c151b1
   try clear c152
   try clear c152b0
   try clear c152b1
   try clear c153
   try clear c153b0
   try clear c153b1
   try clear c154
   try clear c154b0
   try clear c154b1
   try clear c155
   try clear c155b0
   try clear c155b1
   try clear c162
   try clear c163
   try clear c163b0
   try clear c163b1
   try clear c164
   try clear c164b0
   try clear c164b1
   try clear c166
   try clear c167
   try clear c167b0
   try clear c167b1
   try clear p2
   try clear p3
   try clear p36
   try clear p4
   try clear p40
   try clear p41
   try clear p6
   try clear p64
   try clear q3
   try clear q36
   try clear q4
   try clear q40
   try clear q41
   obtain ⟨kq,HA,HJ160,HB⟩ := hcut
   cases kq with
   | zero => exact absurd HA.out (by simp [laws_FnWalksGo.j10])
   | succ kj160 =>
    have H := HA.out; clear HA; simp only [laws_FnWalksGo.j10] at H; have HC171 := Aside0.mk H; clear H
    go_upto_if 522 with (fail)
    go_cut [] from 579 (fun wc => ∃ (kq : Nat),Aside0 (laws_FnWalksGo.j11 kq t161 t162 t163 t164 t165 = some r) ∧ Aside0 (kq ≤ kj160) ∧ Aside0 (Below w.heap.size w wc))
    case first =>
     (try dsimp only [List.append])
     have H := HC171.out; clear HC171
     by_cases c172 : t150 = true
     ·
      subst c172; have H1 : ((impl_CountBetween.f kj160 t145 t147 t146 t148).bind fun bt172 => (if bt172.2 = true then (if bt172.1 = t149 then (if t148 = 0 then (if ((t149 == 1) != (t146.toList == t147.toList)) = true then none else (laws_FnWalksGo.j11 kj160 t161 t162 t163 t164 t165)) else (laws_FnWalksGo.j11 kj160 t161 t162 t163 t164 t165)) else none) else none)) = some r := by rw [if_pos rfl] at H; exact H
      clear H; have H := H1; clear H1; replace H := Option.bind_eq_some_iff.mp H; obtain ⟨⟨t172,t173⟩,A1730,H⟩ := H; replace H : (if t173 = true then (if t172 = t149 then (if t148 = 0 then (if ((t149 == 1) != (t146.toList == t147.toList)) = true then none else (laws_FnWalksGo.j11 kj160 t161 t162 t163 t164 t165)) else (laws_FnWalksGo.j11 kj160 t161 t162 t163 t164 t165)) else none) else none) = some r := H; have A173 := Aside0.mk A1730; clear A1730
      by_cases c174 : t173 = true
      ·
       subst c174; have H1 : (if t172 = t149 then (if t148 = 0 then (if ((t149 == 1) != (t146.toList == t147.toList)) = true then none else (laws_FnWalksGo.j11 kj160 t161 t162 t163 t164 t165)) else (laws_FnWalksGo.j11 kj160 t161 t162 t163 t164 t165)) else none) = some r := by rw [if_pos rfl] at H; exact H
       clear H; have H := H1; clear H1
       by_cases c175 : t172 = t149
       ·
        rw [if_pos c175] at H; have c175b0 : (t172 == t149) = true := beq_iff_eq.mpr c175; have c175b1 : (t172 != t149) = false := bne_eq_false_iff_eq.mpr c175; clear c175
        (first | rw [c175b0] | (simp only [i64_w,i32_w]; rw [c175b0]) | skip)
        by_cases c176 : t148 = 0
        ·
         rw [if_pos c176] at H; have c176b0 : (t148 == 0) = true := beq_iff_eq.mpr c176; have c176b1 : (t148 != 0) = false := bne_eq_false_iff_eq.mpr c176; clear c176
         by_cases c177 : ((t149 == 1) != (t146.toList == t147.toList)) = true
         · rw [if_pos c177] at H; exact absurd H (by simp)
         ·
          rw [if_neg c177] at H; have c177b0 : ((t149 == 1) != (t146.toList == t147.toList)) = false := by simpa using c177
          (try (have c177b1 : decide ((t149 == 1) = (t146.toList == t147.toList)) = true := by simpa using c177))
          (try (have c177b2 : ((t149 == 1) == (t146.toList == t147.toList)) = true := by simpa using c177))
          clear c177; have H' := Aside0.mk H; clear H; go_wp2_with (first | ((with_reducible refine gate_callee (f := 23) rfl ?_); refine goesL_ (some 528) rfl rfl Tryz.func23 (by kernel_rfl) rfl #[.string t145,.string t147,.string t146,.int .i64 t148] rfl zrr ?_; (with_reducible refine (impl_CountBetween.calls kj160 t145 t147 t146 t148 t172 true _ zhm A173.out).mono ?_); rintro e w179 ⟨rfl,hb⟩; refine ⟨_,rfl,?_⟩; have n0_ := Aside0.mk (below_step zbw hb); clear HB; have HB := n0_; clear n0_; (try clear hb); (try clear hb2); (try clear hk); (try clear hi)))
          go_meet
          case rel => exact ⟨_,H',⟨by have := HJ146.out; have := HJ160.out; first | omega | exact Nat.le_refl _⟩,⟨zbw⟩⟩
        ·
         rw [if_neg c176] at H; have c176b0 : (t148 == 0) = false := beq_eq_false_iff_ne.mpr c176; have c176b1 : (t148 != 0) = true := bne_iff_ne.mpr c176; have H' := Aside0.mk H; clear H; go_wp2_with (first | ((with_reducible refine gate_callee (f := 23) rfl ?_); refine goesL_ (some 528) rfl rfl Tryz.func23 (by kernel_rfl) rfl #[.string t145,.string t147,.string t146,.int .i64 t148] rfl zrr ?_; (with_reducible refine (impl_CountBetween.calls kj160 t145 t147 t146 t148 t172 true _ zhm A173.out).mono ?_); rintro e w180 ⟨rfl,hb⟩; refine ⟨_,rfl,?_⟩; have n0_ := Aside0.mk (below_step zbw hb); clear HB; have HB := n0_; clear n0_; (try clear hb); (try clear hb2); (try clear hk); (try clear hi)))
         go_meet
         case rel => exact ⟨_,H',⟨by have := HJ146.out; have := HJ160.out; first | omega | exact Nat.le_refl _⟩,⟨zbw⟩⟩
       · rw [if_neg c175] at H; exact absurd H (by simp)
      ·
       replace c174 := Bool.eq_false_iff.mpr c174; subst c174; have H1 : (none : Option Bool) = some r := by rw [if_neg (show ¬ (false = true) by decide)] at H; exact H
       exact absurd H1 (by simp)
     ·
      replace c172 := Bool.eq_false_iff.mpr c172; subst c172; have H1 : (laws_FnWalksGo.j11 kj160 t161 t162 t163 t164 t165) = some r := by rw [if_neg (show ¬ (false = true) by decide)] at H; exact H
      clear H; have H := H1; clear H1; have H' := Aside0.mk H; clear H; go_wp2
      go_meet
      case rel => exact ⟨_,H',⟨by have := HJ146.out; have := HJ160.out; first | omega | exact Nat.le_refl _⟩,⟨zbw⟩⟩
    case rest =>
     clear HC171; try clear c1
     try clear c2
     try clear p2
     try clear c3
     try clear p3
     try clear q3
     try clear hx3
     try clear qi3
     try clear p4
     try clear q4
     try clear hx4
     try clear qi4
     try clear c6
     try clear p6
     try clear c7
     try clear c8
     try clear c9
     try clear c12
     try clear c13
     try clear c14
     try clear c15
     try clear c16
     try clear c17
     try clear c18
     try clear c19
     try clear c20
     try clear c21
     try clear c22
     try clear c23
     try clear c24
     try clear c25
     try clear c26
     try clear c27
     try clear c28
     try clear c29
     try clear c29b0
     try clear c30
     try clear c31
     try clear c32
     try clear c34
     try clear c35
     try clear p36
     try clear q36
     try clear hx36
     try clear qi36
     try clear c38
     try clear c39
     try clear p40
     try clear q40
     try clear hx40
     try clear p41
     try clear q41
     try clear hx41
     try clear qi41
     try clear c63
     try clear p64
     try clear c65
     try clear c66
     try clear c66b0
     try clear c67
     try clear c67b0
     try clear c67b1
     try clear c68
     try clear c68b0
     try clear c68b1
     try clear c69
     try clear c69b0
     try clear c69b1
     try clear c71
     try clear c74
     try clear c74b0
     try clear c74b1
     try clear c76
     try clear c77
     try clear c77b0
     try clear c78
     try clear c78b0
     try clear c78b1
     try clear c79
     try clear c79b0
     try clear c79b1
     try clear c80
     try clear c80b0
     try clear c80b1
     try clear c82
     try clear c86
     try clear c86b0
     try clear c86b1
     try clear c87
     try clear c87b0
     try clear c88
     try clear c89
     try clear c89b0
     try clear c91
     try clear c91b0
     try clear c91b1
     try clear c131
     try clear c131b0
     try clear c131b1
     try clear c131b2
     try clear c132
     try clear c132b0
     try clear c132b1
     try clear c133
     try clear c133b0
     try clear c133b1
     try clear c133b2
     try clear c134
     try clear c134b0
     try clear c134b1
     try clear c135
     try clear c135b0
     try clear c135b1
     try clear c135b2
     try clear c136
     try clear c136b0
     try clear c136b1
     try clear c136b2
     try clear c137
     try clear c137b0
     try clear c137b1
     try clear c137b2
     try clear c138
     try clear c138b0
     try clear c138b1
     try clear c139
     try clear c139b0
     try clear c139b1
     try clear c139b2
     try clear c140
     try clear c140b0
     try clear c140b1
     try clear c141
     try clear c141b0
     try clear c141b1
     try clear c142
     try clear c142b0
     try clear c142b1
     try clear c142b2
     try clear c143
     try clear c143b0
     try clear c143b1
     try clear c144
     try clear c145
     try clear c146
     try clear c148
     try clear c150
     try clear c151
     try clear c151b0
     try clear c151b1
     try clear c152
     try clear c152b0
     try clear c152b1
     try clear c153
     try clear c153b0
     try clear c153b1
     try clear c154
     try clear c154b0
     try clear c154b1
     try clear c155
     try clear c155b0
     try clear c155b1
     try clear c162
     try clear c163
     try clear c163b0
     try clear c163b1
     try clear c164
     try clear c164b0
     try clear c164b1
     try clear c166
     try clear c167
     try clear c167b0
     try clear c167b1
     try clear c172
     try clear c174
     try clear c175
     try clear c175b0
     try clear c175b1
     try clear c176
     try clear c176b0
     try clear c176b1
     try clear c177
     try clear c177b0
     try clear c177b1
     try clear c177b2
     try clear p2
     try clear p3
     try clear p36
     try clear p4
     try clear p40
     try clear p41
     try clear p6
     try clear p64
     try clear q3
     try clear q36
     try clear q4
     try clear q40
     try clear q41
     obtain ⟨kq,HA,HJ170,HB⟩ := hcut
     cases kq with
     | zero => exact absurd HA.out (by simp [laws_FnWalksGo.j11])
     | succ kj170 =>
      have H := HA.out; clear HA; simp only [laws_FnWalksGo.j11] at H
      by_cases c183 : t165 = true
      ·
       subst c183; have H1 : ((impl_CountBetween.f kj170 t161 t162 t162 t163).bind fun bt174 => (if bt174.2 = true then (if bt174.1 = t164 then (if t161.toList = ([110] : List UInt8) then (if (Int.tmod t163 2) = 1 then (if t164 = 0 then (some true) else none) else (some true)) else (some true)) else none) else none)) = some r := by rw [if_pos rfl] at H; exact H
       clear H; have H := H1; clear H1; replace H := Option.bind_eq_some_iff.mp H; obtain ⟨⟨t174,t175⟩,A1840,H⟩ := H; replace H : (if t175 = true then (if t174 = t164 then (if t161.toList = ([110] : List UInt8) then (if (Int.tmod t163 2) = 1 then (if t164 = 0 then (some true) else none) else (some true)) else (some true)) else none) else none) = some r := H; have A184 := Aside0.mk A1840; clear A1840
       by_cases c185 : t175 = true
       ·
        subst c185; have H1 : (if t174 = t164 then (if t161.toList = ([110] : List UInt8) then (if (Int.tmod t163 2) = 1 then (if t164 = 0 then (some true) else none) else (some true)) else (some true)) else none) = some r := by rw [if_pos rfl] at H; exact H
        clear H; have H := H1; clear H1
        by_cases c186 : t174 = t164
        ·
         rw [if_pos c186] at H; have c186b0 : (t174 == t164) = true := beq_iff_eq.mpr c186; have c186b1 : (t174 != t164) = false := bne_eq_false_iff_eq.mpr c186; clear c186
         by_cases c187 : t161.toList = ([110] : List UInt8)
         ·
          rw [if_pos c187] at H; have c187b0 : (t161.toList == ([110] : List UInt8)) = true := beq_iff_eq.mpr c187; have c187b1 : (t161.toList != ([110] : List UInt8)) = false := bne_eq_false_iff_eq.mpr c187; clear c187
          by_cases c188 : (Int.tmod t163 2) = 1
          ·
           rw [if_pos c188] at H; have c188b0 : ((Int.tmod t163 2) == 1) = true := beq_iff_eq.mpr c188; have c188b1 : ((Int.tmod t163 2) != 1) = false := bne_eq_false_iff_eq.mpr c188; clear c188
           by_cases c189 : t164 = 0
           ·
            rw [if_pos c189] at H; have c189b0 : (t164 == 0) = true := beq_iff_eq.mpr c189; have c189b1 : (t164 != 0) = false := bne_eq_false_iff_eq.mpr c189; clear c189; obtain rfl := Option.some.inj H; go_wp2_with (first | ((with_reducible refine gate_callee (f := 23) rfl ?_); refine goesL_ (some 556) rfl rfl Tryz.func23 (by kernel_rfl) rfl #[.string t161,.string t162,.string t162,.int .i64 t163] rfl zrr ?_; (with_reducible refine (impl_CountBetween.calls kj170 t161 t162 t162 t163 t174 true _ zhm A184.out).mono ?_); rintro e w190 ⟨rfl,hb⟩; refine ⟨_,rfl,?_⟩; have n0_ := Aside0.mk (below_step zbw hb); clear HB; have HB := n0_; clear n0_; (try clear hb); (try clear hb2); (try clear hk); (try clear hi)))
            go_ret
            exact ⟨zer,zbw⟩
           · rw [if_neg c189] at H; exact absurd H (by simp)
          ·
           rw [if_neg c188] at H; have c188b0 : ((Int.tmod t163 2) == 1) = false := beq_eq_false_iff_ne.mpr c188; have c188b1 : ((Int.tmod t163 2) != 1) = true := bne_iff_ne.mpr c188; obtain rfl := Option.some.inj H; go_wp2_with (first | ((with_reducible refine gate_callee (f := 23) rfl ?_); refine goesL_ (some 556) rfl rfl Tryz.func23 (by kernel_rfl) rfl #[.string t161,.string t162,.string t162,.int .i64 t163] rfl zrr ?_; (with_reducible refine (impl_CountBetween.calls kj170 t161 t162 t162 t163 t174 true _ zhm A184.out).mono ?_); rintro e w192 ⟨rfl,hb⟩; refine ⟨_,rfl,?_⟩; have n0_ := Aside0.mk (below_step zbw hb); clear HB; have HB := n0_; clear n0_; (try clear hb); (try clear hb2); (try clear hk); (try clear hi)))
           go_ret
           exact ⟨zer,zbw⟩
         ·
          rw [if_neg c187] at H; have c187b0 : (t161.toList == ([110] : List UInt8)) = false := beq_eq_false_iff_ne.mpr c187; have c187b1 : (t161.toList != ([110] : List UInt8)) = true := bne_iff_ne.mpr c187; obtain rfl := Option.some.inj H; go_wp2_with (first | ((with_reducible refine gate_callee (f := 23) rfl ?_); refine goesL_ (some 556) rfl rfl Tryz.func23 (by kernel_rfl) rfl #[.string t161,.string t162,.string t162,.int .i64 t163] rfl zrr ?_; (with_reducible refine (impl_CountBetween.calls kj170 t161 t162 t162 t163 t174 true _ zhm A184.out).mono ?_); rintro e w193 ⟨rfl,hb⟩; refine ⟨_,rfl,?_⟩; have n0_ := Aside0.mk (below_step zbw hb); clear HB; have HB := n0_; clear n0_; (try clear hb); (try clear hb2); (try clear hk); (try clear hi)))
          go_ret
          exact ⟨zer,zbw⟩
        · rw [if_neg c186] at H; exact absurd H (by simp)
       ·
        replace c185 := Bool.eq_false_iff.mpr c185; subst c185; have H1 : (none : Option Bool) = some r := by rw [if_neg (show ¬ (false = true) by decide)] at H; exact H
        exact absurd H1 (by simp)
      ·
       replace c183 := Bool.eq_false_iff.mpr c183; subst c183; have H1 : (some true) = some r := by rw [if_neg (show ¬ (false = true) by decide)] at H; exact H
       clear H; have H := H1; clear H1; obtain rfl := Option.some.inj H; go_wp2
       go_ret
       exact ⟨zer,zbw⟩
 
set_option maxHeartbeats 8000000 in
set_option maxRecDepth 100000 in
theorem laws_FnWalksGo.tail_j7 {A0 : Option Addr} {c0 : Nat} {l0 : List Int} {A1 : Option Addr} {c1 : Nat} {l1 : List Int} {r : Bool} {w wc : World} {ml_ : Int} {kq kt_ : Nat}  {u4 u5 u6 u7 u8 u9 u10 u11 u12 u13 u14 u15 u16 u17 u18 u19 u20 u21 u22 u23 u24 u25 u26 u27 u28 u29 u30 u31 u32 u33 u83 u84 u85 u86 u87 u88 u89 u90 u91 u92 u93 u94 u95 u96 u97 u98 u99 u100 u101 u102 u103 u104 u105 u106 u107 u108 u109 u110 u111 u112 u113 u114 u115 u116 u117 u118 u119 u120 u121 u122 u123 u124 u125 u126 u127 u128 u129 u130 u131 u132 u133 u134 u135 u136 u137 u138 u139 u140 u141 u142 u143 u144 u145 u146 u147 u148 u149 u150 u151 u152 u153 u154 u155 u156 u157 u158 u159 u160 u161 u162 u163 u164 u165 u166 u167 u168 u169 u170 u171 u172 u173 u174 u175 u176 u177 u178 u179 u180 u181 u182 u183 u184 u185 u186 u187 u188 u189 u190 u191 u192 u193 u194 u195 u196 u197 u198 u199 u200 u201 u202 u203 u204 u205 u206 u207 u208 u209 u210 u211 u212 u213 u214 u215 u216 u217 u218 u219 u220 u221 u222 u223 u224 u225 u226 u227 u228 u229 u230 u231 u232 u233 u234 u235 u236 u237 u238 u239 u240 u241 u242 u243 u244 u245 u246 u247 u248 u249 u250 u251 u252 u253 u254 u255 u256 u257 u258 u259 u260 u261 u262 u263 u264 u265 u266 u267 u268 u269 u270 u271 u272 u273 u274 u275 u276 u277 u278 u279 u280 u281 u282 u283 u284 u285 u286 u287 u288 u289 u290 : Value} (HML : Aside0 (w.cell? ⟨0,0,none⟩ = some (.int .i64 ml_))) (HR1 : Aside0 (Kd.C (Kd.int .u8) w A1 l1.length l1)) (HC1 : Aside0 (l1.length ≤ c1)) (HA : Aside0 (laws_FnWalksGo.j7 kq l1 = some r)) (HJ74 : Aside0 (kq ≤ kt_)) (HB : Aside0 (Below w.heap.size w wc)) :
  Code.wp Tryz.prog (tailC 13 (Tryz.f3.body.getD .skip)) (bodyPost Tryz.prog Tryz.f3 fun e w' => e = .returned (.bool r) ∧ Below w.heap.size w w') { tmps := #[Value.slice A0 l0.length c0,Value.slice A1 l1.length c1,undef,undef,u4,u5,u6,u7,u8,u9,u10,u11,u12,u13,u14,u15,u16,u17,u18,u19,u20,u21,u22,u23,u24,u25,u26,u27,u28,u29,u30,u31,u32,u33,undef,undef,undef,undef,undef,undef,undef,undef,undef,undef,undef,undef,undef,undef,undef,undef,undef,undef,undef,undef,undef,undef,undef,undef,undef,undef,undef,undef,undef,undef,undef,undef,undef,undef,undef,undef,undef,undef,undef,undef,undef,undef,undef,undef,undef,undef,undef,undef,undef,u83,u84,u85,u86,u87,u88,u89,u90,u91,u92,u93,u94,u95,u96,u97,u98,u99,u100,u101,u102,u103,u104,u105,u106,u107,u108,u109,u110,u111,u112,u113,u114,u115,u116,u117,u118,u119,u120,u121,u122,u123,u124,u125,u126,u127,u128,u129,u130,u131,u132,u133,u134,u135,u136,u137,u138,u139,u140,u141,u142,u143,u144,u145,u146,u147,u148,u149,u150,u151,u152,u153,u154,u155,u156,u157,u158,u159,u160,u161,u162,u163,u164,u165,u166,u167,u168,u169,u170,u171,u172,u173,u174,u175,u176,u177,u178,u179,u180,u181,u182,u183,u184,u185,u186,u187,u188,u189,u190,u191,u192,u193,u194,u195,u196,u197,u198,u199,u200,u201,u202,u203,u204,u205,u206,u207,u208,u209,u210,u211,u212,u213,u214,u215,u216,u217,u218,u219,u220,u221,u222,u223,u224,u225,u226,u227,u228,u229,u230,u231,u232,u233,u234,u235,u236,u237,u238,u239,u240,u241,u242,u243,u244,u245,u246,u247,u248,u249,u250,u251,u252,u253,u254,u255,u256,u257,u258,u259,u260,u261,u262,u263,u264,u265,u266,u267,u268,u269,u270,u271,u272,u273,u274,u275,u276,u277,u278,u279,u280,u281,u282,u283,u284,u285,u286,u287,u288,u289,u290,undef,undef,undef,undef,undef,undef,undef,undef,undef,undef,undef,undef,undef,undef,undef,undef,undef,undef,undef,undef,undef,undef,undef,undef,undef,undef,undef,undef,undef,undef,undef,undef,undef,undef,undef,undef,undef,undef,undef,undef,undef,undef,undef,undef,undef,undef,undef,undef,undef,undef,undef,undef,undef,undef,undef,undef,undef,undef,undef,undef,undef,undef,undef,undef,undef,undef,undef,undef,undef,undef,undef,undef,undef,undef,undef,undef,undef,undef,undef,undef,undef,undef,undef,undef,undef,undef,undef,undef,undef,undef,undef,undef,undef,undef,undef,undef,undef,undef,undef,undef,undef,undef,undef,undef,undef,undef,undef,undef,undef,undef,undef,undef,undef,undef,undef,undef,undef,undef,undef,undef,undef,undef,undef,undef,undef,undef,undef,undef,undef,undef,undef,undef,undef,undef,undef,undef,undef,undef,undef,undef,undef,undef,undef,undef,undef,undef,undef,undef,undef,undef,undef,undef,undef,undef,undef,undef,undef,undef,undef,undef,undef,undef,undef,undef,undef,undef,undef,undef,undef,undef,undef,undef,undef,undef,undef,undef,undef,undef,undef,undef,undef,undef,undef,undef,undef,undef,undef,undef,undef,undef,undef,undef,undef,undef,undef,undef,undef,undef,undef,undef,undef,undef,undef,undef,undef,undef,undef,undef,undef,undef,undef,undef,undef,undef,undef,undef,undef,undef,undef,undef,undef,undef,undef,undef,undef,undef,undef,undef,undef,undef,undef,undef,undef,undef,undef,undef,undef,undef,undef,undef,undef,undef,undef,undef,undef,undef,undef,undef,undef,undef,undef,undef,undef,undef,undef,undef,undef,undef,undef,undef,undef,undef,undef,undef,undef,undef,undef,undef,undef,undef,undef,undef,undef,undef,undef,undef,undef,undef,undef,undef,undef,undef,undef,undef,undef,undef,undef,undef],defers := [] } wc := by
 refine wp_lit rfl ?_
 cases kq with
 | zero => exact absurd HA.out (by simp [laws_FnWalksGo.j7])
 | succ kj74 =>
  have H := HA.out; clear HA; simp only [laws_FnWalksGo.j7] at H; replace H := Option.bind_eq_some_iff.mp H; obtain ⟨⟨t127,t128,t129,t130⟩,A970,H⟩ := H; (try dsimp only at H); have A97 := Aside0.mk A970; clear A970; replace H := Option.bind_eq_some_iff.mp H; obtain ⟨⟨t131,t132⟩,A980,H⟩ := H; (try dsimp only at H); have A98 := Aside0.mk A980; clear A980; replace H := Option.bind_eq_some_iff.mp H; obtain ⟨⟨t133,t134⟩,A990,H⟩ := H; (try dsimp only at H); have A99 := Aside0.mk A990; clear A990; replace H := Option.bind_eq_some_iff.mp H; obtain ⟨⟨t135,t136⟩,A1000,H⟩ := H; (try dsimp only at H); have A100 := Aside0.mk A1000; clear A1000; replace H := Option.bind_eq_some_iff.mp H; obtain ⟨⟨t137,t138⟩,A1010,H⟩ := H; (try dsimp only at H); have A101 := Aside0.mk A1010; clear A1010; replace H := Option.bind_eq_some_iff.mp H; obtain ⟨⟨t139,t140⟩,A1020,H⟩ := H; (try dsimp only at H); have A102 := Aside0.mk A1020; clear A1020; replace H := Option.bind_eq_some_iff.mp H; obtain ⟨⟨t141,t142⟩,A1030,H⟩ := H; (try dsimp only at H); have A103 := Aside0.mk A1030; clear A1030; replace H := Option.bind_eq_some_iff.mp H; obtain ⟨⟨t143,t144⟩,A1040,H⟩ := H; (try dsimp only at H); have A104 := Aside0.mk A1040; clear A1040; replace H := Option.bind_eq_some_iff.mp H; obtain ⟨⟨t145,t146,t147,t148⟩,A1050,H⟩ := H; (try dsimp only at H); have A105 := Aside0.mk A1050; clear A1050; replace H := Option.bind_eq_some_iff.mp H; obtain ⟨⟨t149,t150⟩,A1060,H⟩ := H; (try dsimp only at H); have A106 := Aside0.mk A1060; clear A1060; replace H := Option.bind_eq_some_iff.mp H; obtain ⟨⟨t151,t152⟩,A1070,H⟩ := H; (try dsimp only at H); have A107 := Aside0.mk A1070; clear A1070; replace H := Option.bind_eq_some_iff.mp H; obtain ⟨⟨t153,t154⟩,A1080,H⟩ := H; (try dsimp only at H); have A108 := Aside0.mk A1080; clear A1080; replace H := Option.bind_eq_some_iff.mp H; obtain ⟨⟨t155,t156,t157⟩,A1090,H⟩ := H; (try dsimp only at H); have A109 := Aside0.mk A1090; clear A1090; replace H := Option.bind_eq_some_iff.mp H; obtain ⟨⟨t158,t159,t160⟩,A1100,H⟩ := H; (try dsimp only at H); have A110 := Aside0.mk A1100; clear A1100; replace H := Option.bind_eq_some_iff.mp H; obtain ⟨⟨t161,t162,t163⟩,A1110,H⟩ := H; (try dsimp only at H); have A111 := Aside0.mk A1110; clear A1110; replace H := Option.bind_eq_some_iff.mp H; obtain ⟨⟨t164,t165⟩,A1120,H⟩ := H; (try dsimp only at H); have A112 := Aside0.mk A1120; clear A1120; replace H := Option.bind_eq_some_iff.mp H; obtain ⟨⟨t166,t167⟩,A1130,H⟩ := H; (try dsimp only at H); have A113 := Aside0.mk A1130; clear A1130; have HC114 := Aside0.mk H; clear H
  go_upto_region 59 with (first | ((with_reducible refine gate_callee (f := 14) rfl ?_); refine goesL_ (some 293) rfl rfl Tryz.func14 (by kernel_rfl) rfl #[.slice A1 l1.length c1] rfl zrr ?_; (with_reducible refine (spec_DrawNumberOfRank.calls kj74 _ _ l1 t127 t128 t129 t130 _ ?side1 ?side2 A97.out).mono ?_); (case side1 => repeat (first | exact (Kd.C_below HR1.out HB.out) | (with_reducible refine Kd.C_alloc ?_ _) | (with_reducible refine Kd.C_drewN ?_ _) | (with_reducible refine Kd.C_drew ?_))); (case side2 => exact HC1.out); rintro e w115 ⟨rfl,hb⟩; refine ⟨_,rfl,?_⟩; have n0_ := Aside0.mk (below_step zbw hb); clear HB; have HB := n0_; clear n0_; (try clear hb); (try clear hb2); (try clear hk); (try clear hi)) | ((with_reducible refine gate_callee (f := 15) rfl ?_); refine goesL_ (some 303) rfl rfl Tryz.func15 (by kernel_rfl) rfl #[.string t127,.string t128,.int .i64 t129,.int .i64 t130] rfl zrr ?_; (with_reducible refine (impl_NumberOfRank.calls kj74 t127 t128 t129 t130 t131 t132 _ zhm A98.out).mono ?_); rintro e w116 ⟨rfl,hb⟩; refine ⟨_,rfl,?_⟩; have n0_ := Aside0.mk (below_step zbw hb); clear HB; have HB := n0_; clear n0_; (try clear hb); (try clear hb2); (try clear hk); (try clear hi)) | ((with_reducible refine gate_callee (f := 16) rfl ?_); refine goesL_ (some 311) rfl rfl Tryz.func16 (by kernel_rfl) rfl #[.string t127,.string t128,.int .i64 t129,.int .i64 t130] rfl zrr ?_; (with_reducible refine (spec_NumberOfRank.calls kj74 t127 t128 t129 t130 t133 t134 _ A99.out).mono ?_); rintro e w117 ⟨rfl,hb⟩; refine ⟨_,rfl,?_⟩; have n0_ := Aside0.mk (below_step zbw hb); clear HB; have HB := n0_; clear n0_; (try clear hb); (try clear hb2); (try clear hk); (try clear hi)) | ((with_reducible refine gate_callee (f := 17) rfl ?_); refine goesL_ (some 316) rfl rfl Tryz.func17 (by kernel_rfl) rfl #[.slice A1 l1.length c1] rfl zrr ?_; (with_reducible refine (spec_DrawRankOfNumber.calls kj74 _ _ l1 t135 t136 _ ?side1 ?side2 A100.out).mono ?_); (case side1 => repeat (first | exact (Kd.C_below HR1.out HB.out) | (with_reducible refine Kd.C_alloc ?_ _) | (with_reducible refine Kd.C_drewN ?_ _) | (with_reducible refine Kd.C_drew ?_))); (case side2 => exact HC1.out); rintro e w118 ⟨rfl,hb⟩; refine ⟨_,rfl,?_⟩; have n0_ := Aside0.mk (below_step zbw hb); clear HB; have HB := n0_; clear n0_; (try clear hb); (try clear hb2); (try clear hk); (try clear hi)) | ((with_reducible refine gate_callee (f := 18) rfl ?_); refine goesL_ (some 322) rfl rfl Tryz.func18 (by kernel_rfl) rfl #[.string t135,.string t136] rfl zrr ?_; (with_reducible refine (impl_RankOfNumber.calls kj74 t135 t136 t137 t138 _ zhm A101.out).mono ?_); rintro e w119 ⟨rfl,hb⟩; refine ⟨_,rfl,?_⟩; have n0_ := Aside0.mk (below_step zbw hb); clear HB; have HB := n0_; clear n0_; (try clear hb); (try clear hb2); (try clear hk); (try clear hi)) | ((with_reducible refine gate_callee (f := 19) rfl ?_); refine goesL_ (some 328) rfl rfl Tryz.func19 (by kernel_rfl) rfl #[.string t135,.string t136] rfl zrr ?_; (with_reducible refine (spec_RankOfNumber.calls kj74 t135 t136 t139 t140 _ A102.out).mono ?_); rintro e w120 ⟨rfl,hb⟩; refine ⟨_,rfl,?_⟩; have n0_ := Aside0.mk (below_step zbw hb); clear HB; have HB := n0_; clear n0_; (try clear hb); (try clear hb2); (try clear hk); (try clear hi)) | ((with_reducible refine gate_callee (f := 20) rfl ?_); refine goesL_ (some 334) rfl rfl Tryz.func20 (by kernel_rfl) rfl #[.string t135,.string t136] rfl zrr ?_; (with_reducible refine (impl_IsWalk.calls kj74 t135 t136 t141 t142 _ zhm A103.out).mono ?_); rintro e w121 ⟨rfl,hb⟩; refine ⟨_,rfl,?_⟩; have n0_ := Aside0.mk (below_step zbw hb); clear HB; have HB := n0_; clear n0_; (try clear hb); (try clear hb2); (try clear hk); (try clear hi)) | ((with_reducible refine gate_callee (f := 21) rfl ?_); refine goesL_ (some 340) rfl rfl Tryz.func21 (by kernel_rfl) rfl #[.string t135,.string t136] rfl zrr ?_; (with_reducible refine (spec_IsWalk.calls kj74 t135 t136 t143 t144 _ A104.out).mono ?_); rintro e w' ⟨rfl,⟨nd,rfl⟩⟩; refine ⟨_,rfl,?_⟩) | ((with_reducible refine gate_callee (f := 22) rfl ?_); refine goesL_ (some 345) rfl rfl Tryz.func22 (by kernel_rfl) rfl #[.slice A1 l1.length c1] rfl zrr ?_; (with_reducible refine (spec_DrawCountBetween.calls kj74 _ _ l1 t145 t146 t147 t148 _ ?side1 ?side2 A105.out).mono ?_); (case side1 => repeat (first | exact (Kd.C_below HR1.out zbw) | (with_reducible refine Kd.C_alloc ?_ _) | (with_reducible refine Kd.C_drewN ?_ _) | (with_reducible refine Kd.C_drew ?_))); (case side2 => exact HC1.out); rintro e w122 ⟨rfl,hb⟩; refine ⟨_,rfl,?_⟩; have n0_ := Aside0.mk (below_step zbw hb); clear HB; have HB := n0_; clear n0_; (try clear hb); (try clear hb2); (try clear hk); (try clear hi)) | ((with_reducible refine gate_callee (f := 23) rfl ?_); refine goesL_ (some 355) rfl rfl Tryz.func23 (by kernel_rfl) rfl #[.string t145,.string t146,.string t147,.int .i64 t148] rfl zrr ?_; (with_reducible refine (impl_CountBetween.calls kj74 t145 t146 t147 t148 t149 t150 _ zhm A106.out).mono ?_); rintro e w123 ⟨rfl,hb⟩; refine ⟨_,rfl,?_⟩; have n0_ := Aside0.mk (below_step zbw hb); clear HB; have HB := n0_; clear n0_; (try clear hb); (try clear hb2); (try clear hk); (try clear hi)) | ((with_reducible refine gate_callee (f := 24) rfl ?_); refine goesL_ (some 363) rfl rfl Tryz.func24 (by kernel_rfl) rfl #[.string t145,.string t146,.string t147,.int .i64 t148] rfl zrr ?_; (with_reducible refine (spec_CountBetween.calls kj74 t145 t146 t147 t148 t151 t152 _ A107.out).mono ?_); rintro e w124 ⟨rfl,hb⟩; refine ⟨_,rfl,?_⟩; have n0_ := Aside0.mk (below_step zbw hb); clear HB; have HB := n0_; clear n0_; (try clear hb); (try clear hb2); (try clear hk); (try clear hi)) | ((with_reducible refine gate_callee (f := 25) rfl ?_); refine goesL_ (some 368) rfl rfl Tryz.func25 (by kernel_rfl) rfl #[.slice A1 l1.length c1] rfl zrr ?_; (with_reducible refine (spec_DrawBusiestKey.calls kj74 _ _ l1 t153 t154 _ ?side1 ?side2 A108.out).mono ?_); (case side1 => repeat (first | exact (Kd.C_below HR1.out HB.out) | (with_reducible refine Kd.C_alloc ?_ _) | (with_reducible refine Kd.C_drewN ?_ _) | (with_reducible refine Kd.C_drew ?_))); (case side2 => exact HC1.out); rintro e w125 ⟨rfl,hb⟩; refine ⟨_,rfl,?_⟩; have n0_ := Aside0.mk (below_step zbw hb); clear HB; have HB := n0_; clear n0_; (try clear hb); (try clear hb2); (try clear hk); (try clear hi)) | ((with_reducible refine gate_callee (f := 13) rfl ?_); refine goesL_ (some 374) rfl rfl Tryz.func13 (by kernel_rfl) rfl #[.string t153,.int .i64 t154] rfl zrr ?_; (with_reducible refine (impl_BusiestKey.calls kj74 t153 t154 t155 t156 t157 _ zhm A109.out).mono ?_); rintro e w126 ⟨rfl,hb⟩; refine ⟨_,rfl,?_⟩; have n0_ := Aside0.mk (below_step zbw hb); clear HB; have HB := n0_; clear n0_; (try clear hb); (try clear hb2); (try clear hk); (try clear hi)) | ((with_reducible refine gate_callee (f := 26) rfl ?_); refine goesL_ (some 381) rfl rfl Tryz.func26 (by kernel_rfl) rfl #[.string t153,.int .i64 t154] rfl zrr ?_; (with_reducible refine (spec_BusiestKey.calls kj74 t153 t154 t158 t159 t160 _ A110.out).mono ?_); rintro e w127 ⟨rfl,hb⟩; refine ⟨_,rfl,?_⟩; have n0_ := Aside0.mk (below_step zbw hb); clear HB; have HB := n0_; clear n0_; (try clear hb); (try clear hb2); (try clear hk); (try clear hi)) | ((with_reducible refine gate_callee (f := 27) rfl ?_); refine goesL_ (some 387) rfl rfl Tryz.func27 (by kernel_rfl) rfl #[.slice A1 l1.length c1] rfl zrr ?_; (with_reducible refine (spec_DrawCountRounds.calls kj74 _ _ l1 t161 t162 t163 _ ?side1 ?side2 A111.out).mono ?_); (case side1 => repeat (first | exact (Kd.C_below HR1.out HB.out) | (with_reducible refine Kd.C_alloc ?_ _) | (with_reducible refine Kd.C_drewN ?_ _) | (with_reducible refine Kd.C_drew ?_))); (case side2 => exact HC1.out); rintro e w128 ⟨rfl,hb⟩; refine ⟨_,rfl,?_⟩; have n0_ := Aside0.mk (below_step zbw hb); clear HB; have HB := n0_; clear n0_; (try clear hb); (try clear hb2); (try clear hk); (try clear hi)) | ((with_reducible refine gate_callee (f := 28) rfl ?_); refine goesL_ (some 395) rfl rfl Tryz.func28 (by kernel_rfl) rfl #[.string t161,.string t162,.int .i64 t163] rfl zrr ?_; (with_reducible refine (impl_CountRounds.calls kj74 t161 t162 t163 t164 t165 _ zhm A112.out).mono ?_); rintro e w129 ⟨rfl,hb⟩; refine ⟨_,rfl,?_⟩; have n0_ := Aside0.mk (below_step zbw hb); clear HB; have HB := n0_; clear n0_; (try clear hb); (try clear hb2); (try clear hk); (try clear hi)) | ((with_reducible refine gate_callee (f := 29) rfl ?_); refine goesL_ (some 402) rfl rfl Tryz.func29 (by kernel_rfl) rfl #[.string t161,.string t162,.int .i64 t163] rfl zrr ?_; (with_reducible refine (spec_CountRounds.calls kj74 t161 t162 t163 t166 t167 _ A113.out).mono ?_); rintro e w130 ⟨rfl,hb⟩; refine ⟨_,rfl,?_⟩; have n0_ := Aside0.mk (below_step zbw hb); clear HB; have HB := n0_; clear n0_; (try clear hb); (try clear hb2); (try clear hk); (try clear hi)))
  (try simp only [Act.put,List.setIfInBounds_toArray,List.set_cons_zero,List.set_cons_succ])
  go_cut [477] from 579 (fun v477 wc => ∃ (kq : Nat) (x477_113 : Bool),v477 = .bool x477_113 ∧ Aside0 (laws_FnWalksGo.j8 kq t127 t128 t129 t130 t131 t132 t135 t136 t137 t138 t145 t146 t147 t148 t149 t150 t161 t162 t163 t164 t165 x477_113 = some r) ∧ Aside0 (kq ≤ kj74) ∧ Aside0 (Below w.heap.size w wc))
  case first =>
   (try dsimp only [List.append])
   have H := HC114.out; clear HC114
   by_cases c131 : (t132 != t134) = true
   · rw [if_pos c131] at H; exact absurd H (by rw [laws_FnWalksGo.j8_none]; simp)
   ·
    rw [if_neg c131] at H; have c131b0 : (t132 != t134) = false := by simpa using c131
    (try (have c131b1 : decide (t132 = t134) = true := by simpa using c131))
    (try (have c131b2 : (t132 == t134) = true := by simpa using c131))
    clear c131
    (first | rw [c131b0] | (simp only [i64_w,i32_w]; rw [c131b0]) | skip)
    by_cases c132 : t131.toList = t133.toList
    ·
     rw [if_pos c132] at H; have c132b0 : (t131.toList == t133.toList) = true := beq_iff_eq.mpr c132; have c132b1 : (t131.toList != t133.toList) = false := bne_eq_false_iff_eq.mpr c132; clear c132
     by_cases c133 : (t138 != t140) = true
     · rw [if_pos c133] at H; exact absurd H (by rw [laws_FnWalksGo.j8_none]; simp)
     ·
      rw [if_neg c133] at H; have c133b0 : (t138 != t140) = false := by simpa using c133
      (try (have c133b1 : decide (t138 = t140) = true := by simpa using c133))
      (try (have c133b2 : (t138 == t140) = true := by simpa using c133))
      clear c133
      by_cases c134 : t137 = t139
      ·
       rw [if_pos c134] at H; have c134b0 : (t137 == t139) = true := beq_iff_eq.mpr c134; have c134b1 : (t137 != t139) = false := bne_eq_false_iff_eq.mpr c134; clear c134
       by_cases c135 : (t142 != t144) = true
       · rw [if_pos c135] at H; exact absurd H (by rw [laws_FnWalksGo.j8_none]; simp)
       ·
        rw [if_neg c135] at H; have c135b0 : (t142 != t144) = false := by simpa using c135
        (try (have c135b1 : decide (t142 = t144) = true := by simpa using c135))
        (try (have c135b2 : (t142 == t144) = true := by simpa using c135))
        clear c135
        by_cases c136 : (t141 != t143) = true
        · rw [if_pos c136] at H; exact absurd H (by rw [laws_FnWalksGo.j8_none]; simp)
        ·
         rw [if_neg c136] at H; have c136b0 : (t141 != t143) = false := by simpa using c136
         (try (have c136b1 : decide (t141 = t143) = true := by simpa using c136))
         (try (have c136b2 : (t141 == t143) = true := by simpa using c136))
         clear c136
         by_cases c137 : (t150 != t152) = true
         · rw [if_pos c137] at H; exact absurd H (by rw [laws_FnWalksGo.j8_none]; simp)
         ·
          rw [if_neg c137] at H; have c137b0 : (t150 != t152) = false := by simpa using c137
          (try (have c137b1 : decide (t150 = t152) = true := by simpa using c137))
          (try (have c137b2 : (t150 == t152) = true := by simpa using c137))
          clear c137
          by_cases c138 : t149 = t151
          ·
           rw [if_pos c138] at H; have c138b0 : (t149 == t151) = true := beq_iff_eq.mpr c138; have c138b1 : (t149 != t151) = false := bne_eq_false_iff_eq.mpr c138; clear c138
           by_cases c139 : (t157 != t160) = true
           · rw [if_pos c139] at H; exact absurd H (by rw [laws_FnWalksGo.j8_none]; simp)
           ·
            rw [if_neg c139] at H; have c139b0 : (t157 != t160) = false := by simpa using c139
            (try (have c139b1 : decide (t157 = t160) = true := by simpa using c139))
            (try (have c139b2 : (t157 == t160) = true := by simpa using c139))
            clear c139
            by_cases c140 : t155.toList = t158.toList
            ·
             rw [if_pos c140] at H; have c140b0 : (t155.toList == t158.toList) = true := beq_iff_eq.mpr c140; have c140b1 : (t155.toList != t158.toList) = false := bne_eq_false_iff_eq.mpr c140; clear c140
             by_cases c141 : t156 = t159
             ·
              rw [if_pos c141] at H; have c141b0 : (t156 == t159) = true := beq_iff_eq.mpr c141; have c141b1 : (t156 != t159) = false := bne_eq_false_iff_eq.mpr c141; clear c141
              by_cases c142 : (t165 != t167) = true
              · rw [if_pos c142] at H; exact absurd H (by rw [laws_FnWalksGo.j8_none]; simp)
              ·
               rw [if_neg c142] at H; have c142b0 : (t165 != t167) = false := by simpa using c142
               (try (have c142b1 : decide (t165 = t167) = true := by simpa using c142))
               (try (have c142b2 : (t165 == t167) = true := by simpa using c142))
               clear c142
               by_cases c143 : t164 = t166
               ·
                rw [if_pos c143] at H; have c143b0 : (t164 == t166) = true := beq_iff_eq.mpr c143; have c143b1 : (t164 != t166) = false := bne_eq_false_iff_eq.mpr c143; clear c143
                by_cases c144 : t138 = true
                ·
                 subst c144; have H1 : (if t142 = true then (laws_FnWalksGo.j8 kj74 t127 t128 t129 t130 t131 t132 t135 t136 t137 true t145 t146 t147 t148 t149 t150 t161 t162 t163 t164 t165 (!t141)) else (laws_FnWalksGo.j8 kj74 t127 t128 t129 t130 t131 t132 t135 t136 t137 true t145 t146 t147 t148 t149 t150 t161 t162 t163 t164 t165 (!false))) = some r := by rw [if_pos rfl] at H; exact H
                 clear H; have H := H1; clear H1
                 by_cases c145 : t142 = true
                 ·
                  subst c145; have H1 : (laws_FnWalksGo.j8 kj74 t127 t128 t129 t130 t131 t132 t135 t136 t137 true t145 t146 t147 t148 t149 t150 t161 t162 t163 t164 t165 (!t141)) = some r := by rw [if_pos rfl] at H; exact H
                  clear H; have H := H1; clear H1; have H' := Aside0.mk H; clear H; go_wp2
                  go_meet
                  case rel => exact ⟨_,(!t141),zrs,H',⟨by have := HJ74.out; first | omega | exact Nat.le_refl _⟩,⟨zbw⟩⟩
                 ·
                  replace c145 := Bool.eq_false_iff.mpr c145; subst c145; have H1 : (laws_FnWalksGo.j8 kj74 t127 t128 t129 t130 t131 t132 t135 t136 t137 true t145 t146 t147 t148 t149 t150 t161 t162 t163 t164 t165 (!false)) = some r := by rw [if_neg (show ¬ (false = true) by decide)] at H; exact H
                  clear H; have H := H1; clear H1; have H' := Aside0.mk H; clear H; go_wp2
                  go_meet
                  case rel => exact ⟨_,(!false),zrs,H',⟨by have := HJ74.out; first | omega | exact Nat.le_refl _⟩,⟨zbw⟩⟩
                ·
                 replace c144 := Bool.eq_false_iff.mpr c144; subst c144; have H1 : (laws_FnWalksGo.j8 kj74 t127 t128 t129 t130 t131 t132 t135 t136 t137 false t145 t146 t147 t148 t149 t150 t161 t162 t163 t164 t165 false) = some r := by rw [if_neg (show ¬ (false = true) by decide)] at H; exact H
                 clear H; have H := H1; clear H1; have H' := Aside0.mk H; clear H; go_wp2
                 go_meet
                 case rel => exact ⟨_,(false),zrs,H',⟨by have := HJ74.out; first | omega | exact Nat.le_refl _⟩,⟨zbw⟩⟩
               · rw [if_neg c143] at H; exact absurd H (by rw [laws_FnWalksGo.j8_none]; simp)
             · rw [if_neg c141] at H; exact absurd H (by rw [laws_FnWalksGo.j8_none]; simp)
            · rw [if_neg c140] at H; exact absurd H (by rw [laws_FnWalksGo.j8_none]; simp)
          · rw [if_neg c138] at H; exact absurd H (by rw [laws_FnWalksGo.j8_none]; simp)
      · rw [if_neg c134] at H; exact absurd H (by rw [laws_FnWalksGo.j8_none]; simp)
    · rw [if_neg c132] at H; exact absurd H (by rw [laws_FnWalksGo.j8_none]; simp)
  case rest =>
   clear HC114; try clear c1
   try clear c2
   try clear p2
   try clear c3
   try clear p3
   try clear q3
   try clear hx3
   try clear qi3
   try clear p4
   try clear q4
   try clear hx4
   try clear qi4
   try clear c6
   try clear p6
   try clear c7
   try clear c8
   try clear c9
   try clear c12
   try clear c13
   try clear c14
   try clear c15
   try clear c16
   try clear c17
   try clear c18
   try clear c19
   try clear c20
   try clear c21
   try clear c22
   try clear c23
   try clear c24
   try clear c25
   try clear c26
   try clear c27
   try clear c28
   try clear c29
   try clear c29b0
   try clear c30
   try clear c31
   try clear c32
   try clear c34
   try clear c35
   try clear p36
   try clear q36
   try clear hx36
   try clear qi36
   try clear c38
   try clear c39
   try clear p40
   try clear q40
   try clear hx40
   try clear p41
   try clear q41
   try clear hx41
   try clear qi41
   try clear c63
   try clear p64
   try clear c65
   try clear c66
   try clear c66b0
   try clear c67
   try clear c67b0
   try clear c67b1
   try clear c68
   try clear c68b0
   try clear c68b1
   try clear c69
   try clear c69b0
   try clear c69b1
   try clear c71
   try clear c74
   try clear c74b0
   try clear c74b1
   try clear c76
   try clear c77
   try clear c77b0
   try clear c78
   try clear c78b0
   try clear c78b1
   try clear c79
   try clear c79b0
   try clear c79b1
   try clear c80
   try clear c80b0
   try clear c80b1
   try clear c82
   try clear c86
   try clear c86b0
   try clear c86b1
   try clear c87
   try clear c87b0
   try clear c88
   try clear c89
   try clear c89b0
   try clear c91
   try clear c91b0
   try clear c91b1
   try clear c131
   try clear c131b0
   try clear c131b1
   try clear c131b2
   try clear c132
   try clear c132b0
   try clear c132b1
   try clear c133
   try clear c133b0
   try clear c133b1
   try clear c133b2
   try clear c134
   try clear c134b0
   try clear c134b1
   try clear c135
   try clear c135b0
   try clear c135b1
   try clear c135b2
   try clear c136
   try clear c136b0
   try clear c136b1
   try clear c136b2
   try clear c137
   try clear c137b0
   try clear c137b1
   try clear c137b2
   try clear c138
   try clear c138b0
   try clear c138b1
   try clear c139
   try clear c139b0
   try clear c139b1
   try clear c139b2
   try clear c140
   try clear c140b0
   try clear c140b1
   try clear c141
   try clear c141b0
   try clear c141b1
   try clear c142
   try clear c142b0
   try clear c142b1
   try clear c142b2
   try clear c143
   try clear c143b0
   try clear c143b1
   try clear c144
   try clear c145
   try clear p2
   try clear p3
   try clear p36
   try clear p4
   try clear p40
   try clear p41
   try clear p6
   try clear p64
   try clear q3
   try clear q36
   try clear q4
   try clear q40
   try clear q41
   obtain ⟨kq,x477_113,rfl,HA,HJ113,HB⟩ := hcut
   cases kq with
   | zero => exact absurd HA.out (by simp [laws_FnWalksGo.j8])
   | succ kj113 =>
    have H := HA.out; clear HA; simp only [laws_FnWalksGo.j8] at H
    by_cases c146 : x477_113 = true
    ·
     subst c146; have H1 : (none : Option Bool) = some r := by rw [if_pos rfl] at H; exact H
     exact absurd H1 (by simp)
    ·
     replace c146 := Bool.eq_false_iff.mpr c146; subst c146; have H1 : (if t132 = true then ((impl_RankOfNumber.f kj113 t127 t131).bind fun bt168 => (if bt168.2 = true then (if bt168.1 = t130 then (if (t131.size : Int) = t129 then (if 0 ≤ 1 then (if 1 ≤ (t131.size : Int) then (if (t131.extract 0 1).toList = t128.toList then (laws_FnWalksGo.j9 kj113 t135 t136 t137 t138 t145 t146 t147 t148 t149 t150 t161 t162 t163 t164 t165) else none) else (none)) else (none)) else none) else none) else none)) else (laws_FnWalksGo.j9 kj113 t135 t136 t137 t138 t145 t146 t147 t148 t149 t150 t161 t162 t163 t164 t165)) = some r := by rw [if_neg (show ¬ (false = true) by decide)] at H; exact H
     clear H; have H := H1; clear H1; have HC147 := Aside0.mk H; clear H
     go_upto_if 478 with (fail)
     go_cut [] from 579 (fun wc => ∃ (kq : Nat),Aside0 (laws_FnWalksGo.j9 kq t135 t136 t137 t138 t145 t146 t147 t148 t149 t150 t161 t162 t163 t164 t165 = some r) ∧ Aside0 (kq ≤ kj113) ∧ Aside0 (Below w.heap.size w wc))
     case first =>
      (try dsimp only [List.append])
      have H := HC147.out; clear HC147
      by_cases c148 : t132 = true
      ·
       subst c148; have H1 : ((impl_RankOfNumber.f kj113 t127 t131).bind fun bt168 => (if bt168.2 = true then (if bt168.1 = t130 then (if (t131.size : Int) = t129 then (if 0 ≤ 1 then (if 1 ≤ (t131.size : Int) then (if (t131.extract 0 1).toList = t128.toList then (laws_FnWalksGo.j9 kj113 t135 t136 t137 t138 t145 t146 t147 t148 t149 t150 t161 t162 t163 t164 t165) else none) else (none)) else (none)) else none) else none) else none)) = some r := by rw [if_pos rfl] at H; exact H
       clear H; have H := H1; clear H1; replace H := Option.bind_eq_some_iff.mp H; obtain ⟨⟨t168,t169⟩,A1490,H⟩ := H; replace H : (if t169 = true then (if t168 = t130 then (if (t131.size : Int) = t129 then (if 0 ≤ 1 then (if 1 ≤ (t131.size : Int) then (if (t131.extract 0 1).toList = t128.toList then (laws_FnWalksGo.j9 kj113 t135 t136 t137 t138 t145 t146 t147 t148 t149 t150 t161 t162 t163 t164 t165) else none) else (none)) else (none)) else none) else none) else none) = some r := H; have A149 := Aside0.mk A1490; clear A1490
       by_cases c150 : t169 = true
       ·
        subst c150; have H1 : (if t168 = t130 then (if (t131.size : Int) = t129 then (if 0 ≤ 1 then (if 1 ≤ (t131.size : Int) then (if (t131.extract 0 1).toList = t128.toList then (laws_FnWalksGo.j9 kj113 t135 t136 t137 t138 t145 t146 t147 t148 t149 t150 t161 t162 t163 t164 t165) else none) else (none)) else (none)) else none) else none) = some r := by rw [if_pos rfl] at H; exact H
        clear H; have H := H1; clear H1
        by_cases c151 : t168 = t130
        ·
         rw [if_pos c151] at H; have c151b0 : (t168 == t130) = true := beq_iff_eq.mpr c151; have c151b1 : (t168 != t130) = false := bne_eq_false_iff_eq.mpr c151; clear c151
         (first | rw [c151b0] | (simp only [i64_w,i32_w]; rw [c151b0]) | skip)
         by_cases c152 : (t131.size : Int) = t129
         ·
          rw [if_pos c152] at H; have c152b0 : ((t131.size : Int) == t129) = true := beq_iff_eq.mpr c152; have c152b1 : ((t131.size : Int) != t129) = false := bne_eq_false_iff_eq.mpr c152; clear c152
          by_cases c153 : 0 ≤ 1
          ·
           rw [if_pos c153] at H; have c153b0 := eq_true c153; have c153b1 : decide (0 ≤ 1) = true := decide_eq_true c153; clear c153
           by_cases c154 : 1 ≤ (t131.size : Int)
           ·
            rw [if_pos c154] at H; have c154b0 := eq_true c154; have c154b1 : decide (1 ≤ (t131.size : Int)) = true := decide_eq_true c154; clear c154
            by_cases c155 : (t131.extract 0 1).toList = t128.toList
            ·
             rw [if_pos c155] at H; have c155b0 : ((t131.extract 0 1).toList == t128.toList) = true := beq_iff_eq.mpr c155; have c155b1 : ((t131.extract 0 1).toList != t128.toList) = false := bne_eq_false_iff_eq.mpr c155; clear c155; have H' := Aside0.mk H; clear H; go_wp2_with (first | ((with_reducible refine gate_callee (f := 18) rfl ?_); refine goesL_ (some 482) rfl rfl Tryz.func18 (by kernel_rfl) rfl #[.string t127,.string t131] rfl zrr ?_; (with_reducible refine (impl_RankOfNumber.calls kj113 t127 t131 t168 true _ zhm A149.out).mono ?_); rintro e w156 ⟨rfl,hb⟩; refine ⟨_,rfl,?_⟩; have n0_ := Aside0.mk (below_step zbw hb); clear HB; have HB := n0_; clear n0_; (try clear hb); (try clear hb2); (try clear hk); (try clear hi)))
             go_meet
             case rel => exact ⟨_,H',⟨by have := HJ74.out; have := HJ113.out; first | omega | exact Nat.le_refl _⟩,⟨zbw⟩⟩
            · rw [if_neg c155] at H; exact absurd H (by simp)
           · rw [if_neg c154] at H; exact absurd H (by simp)
          · rw [if_neg c153] at H; exact absurd H (by simp)
         · rw [if_neg c152] at H; exact absurd H (by simp)
        · rw [if_neg c151] at H; exact absurd H (by simp)
       ·
        replace c150 := Bool.eq_false_iff.mpr c150; subst c150; have H1 : (none : Option Bool) = some r := by rw [if_neg (show ¬ (false = true) by decide)] at H; exact H
        exact absurd H1 (by simp)
      ·
       replace c148 := Bool.eq_false_iff.mpr c148; subst c148; have H1 : (laws_FnWalksGo.j9 kj113 t135 t136 t137 t138 t145 t146 t147 t148 t149 t150 t161 t162 t163 t164 t165) = some r := by rw [if_neg (show ¬ (false = true) by decide)] at H; exact H
       clear H; have H := H1; clear H1; have H' := Aside0.mk H; clear H; go_wp2
       go_meet
       case rel => exact ⟨_,H',⟨by have := HJ74.out; have := HJ113.out; first | omega | exact Nat.le_refl _⟩,⟨zbw⟩⟩
     case rest =>
      rename_i K_ hK_
      clear HC147; try clear c1
      try clear c2
      try clear p2
      try clear c3
      try clear p3
      try clear q3
      try clear hx3
      try clear qi3
      try clear p4
      try clear q4
      try clear hx4
      try clear qi4
      try clear c6
      try clear p6
      try clear c7
      try clear c8
      try clear c9
      try clear c12
      try clear c13
      try clear c14
      try clear c15
      try clear c16
      try clear c17
      try clear c18
      try clear c19
      try clear c20
      try clear c21
      try clear c22
      try clear c23
      try clear c24
      try clear c25
      try clear c26
      try clear c27
      try clear c28
      try clear c29
      try clear c29b0
      try clear c30
      try clear c31
      try clear c32
      try clear c34
      try clear c35
      try clear p36
      try clear q36
      try clear hx36
      try clear qi36
      try clear c38
      try clear c39
      try clear p40
      try clear q40
      try clear hx40
      try clear p41
      try clear q41
      try clear hx41
      try clear qi41
      try clear c63
      try clear p64
      try clear c65
      try clear c66
      try clear c66b0
      try clear c67
      try clear c67b0
      try clear c67b1
      try clear c68
      try clear c68b0
      try clear c68b1
      try clear c69
      try clear c69b0
      try clear c69b1
      try clear c71
      try clear c74
      try clear c74b0
      try clear c74b1
      try clear c76
      try clear c77
      try clear c77b0
      try clear c78
      try clear c78b0
      try clear c78b1
      try clear c79
      try clear c79b0
      try clear c79b1
      try clear c80
      try clear c80b0
      try clear c80b1
      try clear c82
      try clear c86
      try clear c86b0
      try clear c86b1
      try clear c87
      try clear c87b0
      try clear c88
      try clear c89
      try clear c89b0
      try clear c91
      try clear c91b0
      try clear c91b1
      try clear c131
      try clear c131b0
      try clear c131b1
      try clear c131b2
      try clear c132
      try clear c132b0
      try clear c132b1
      try clear c133
      try clear c133b0
      try clear c133b1
      try clear c133b2
      try clear c134
      try clear c134b0
      try clear c134b1
      try clear c135
      try clear c135b0
      try clear c135b1
      try clear c135b2
      try clear c136
      try clear c136b0
      try clear c136b1
      try clear c136b2
      try clear c137
      try clear c137b0
      try clear c137b1
      try clear c137b2
      try clear c138
      try clear c138b0
      try clear c138b1
      try clear c139
      try clear c139b0
      try clear c139b1
      try clear c139b2
      try clear c140
      try clear c140b0
      try clear c140b1
      try clear c141
      try clear c141b0
      try clear c141b1
      try clear c142
      try clear c142b0
      try clear c142b1
      try clear c142b2
      try clear c143
      try clear c143b0
      try clear c143b1
      try clear c144
      try clear c145
      try clear c146
      try clear c148
      try clear c150
      try clear c151
      try clear c151b0
      try clear c151b1
      try clear c152
      try clear c152b0
      try clear c152b1
      try clear c153
      try clear c153b0
      try clear c153b1
      try clear c154
      try clear c154b0
      try clear c154b1
      try clear c155
      try clear c155b0
      try clear c155b1
      try clear p2
      try clear p3
      try clear p36
      try clear p4
      try clear p40
      try clear p41
      try clear p6
      try clear p64
      try clear q3
      try clear q36
      try clear q4
      try clear q40
      try clear q41
      obtain ⟨kq,HA,HJ146,HB⟩ := hcut; exact hK_ _ _ (laws_FnWalksGo.tail_j9 HML  HA HJ146 HB)
set_option maxHeartbeats 8000000 in
set_option maxRecDepth 100000 in
theorem laws_FnWalksGo.calls (k : Nat) (A0 : Option Addr) (c0 : Nat) (l0 : List Int) (A1 : Option Addr) (c1 : Nat) (l1 : List Int) (r : Bool) (w : World) (hr0 : Kd.C (Kd.int .u8) w A0 l0.length l0) (hc0 : l0.length ≤ c0) (hr1 : Kd.C (Kd.int .u8) w A1 l1.length l1) (hc1 : l1.length ≤ c1) (hml : ∃ m_ : Int,w.cell? ⟨0,0,none⟩ = some (.int .i64 m_)) (h : laws_FnWalksGo.f k l0 l1 = some r) :
  Calls Tryz.prog 3 #[.slice A0 l0.length c0,.slice A1 l1.length c1] w fun e w' => e = .returned (.bool r) ∧ Below w.heap.size w w' := by
 obtain ⟨ml_,hml⟩ := hml; have HML := Aside0.mk hml; clear hml; have HR0 := Aside0.mk hr0; have HC0 := Aside0.mk hc0; clear hr0 hc0; have HR1 := Aside0.mk hr1; have HC1 := Aside0.mk hc1; clear hr1 hc1; have HB := Aside0.mk (Below.refl w.heap.size w); have H : ((laws_big.f l0 l1).bind fun t101 => (if t101 = true then (some true) else ((spec_DrawCountNumbers.f k l0).bind fun bt102 => ((impl_CountNumbers.f k bt102.1 bt102.2.1 bt102.2.2).bind fun bt105 => ((spec_CountNumbers.f k bt102.1 bt102.2.1 bt102.2.2).bind fun bt107 => ((impl_NextKeys.f k bt102.1 bt102.2.1).bind fun bt109 => ((spec_NextKeys.f k bt102.1 bt102.2.1).bind fun bt111 => ((impl_CountAllNumbers.f k bt102.1 bt102.2.2).bind fun bt113 => ((spec_CountAllNumbers.f k bt102.1 bt102.2.2).bind fun bt115 => (if (bt105.2 != bt107.2) = true then (laws_FnWalksGo.j0 k l1 bt102.1 bt102.2.1 bt102.2.2 bt105.1 bt105.2 bt109.1 bt109.2 bt113.1 bt113.2 true) else (if bt105.1 = bt107.1 then (if (bt109.2 != bt111.2) = true then (laws_FnWalksGo.j0 k l1 bt102.1 bt102.2.1 bt102.2.2 bt105.1 bt105.2 bt109.1 bt109.2 bt113.1 bt113.2 true) else (if bt109.1.toList = bt111.1.toList then (if (bt113.2 != bt115.2) = true then (laws_FnWalksGo.j0 k l1 bt102.1 bt102.2.1 bt102.2.2 bt105.1 bt105.2 bt109.1 bt109.2 bt113.1 bt113.2 true) else (if bt113.1 = bt115.1 then (if bt105.2 = true then (laws_FnWalksGo.j0 k l1 bt102.1 bt102.2.1 bt102.2.2 bt105.1 bt105.2 bt109.1 bt109.2 bt113.1 bt113.2 (!bt109.2)) else (laws_FnWalksGo.j0 k l1 bt102.1 bt102.2.1 bt102.2.2 bt105.1 bt105.2 bt109.1 bt109.2 bt113.1 bt113.2 false)) else (laws_FnWalksGo.j0 k l1 bt102.1 bt102.2.1 bt102.2.2 bt105.1 bt105.2 bt109.1 bt109.2 bt113.1 bt113.2 true))) else (laws_FnWalksGo.j0 k l1 bt102.1 bt102.2.1 bt102.2.2 bt105.1 bt105.2 bt109.1 bt109.2 bt113.1 bt113.2 true))) else (laws_FnWalksGo.j0 k l1 bt102.1 bt102.2.1 bt102.2.2 bt105.1 bt105.2 bt109.1 bt109.2 bt113.1 bt113.2 true)))))))))))) = some r := h; clear h; replace H := Option.bind_eq_some_iff.mp H; obtain ⟨t101,A30,H⟩ := H; (try dsimp only at H); have A3 := Aside0.mk A30; clear A30
 by_cases c4 : t101 = true
 ·
  subst c4; have H1 : (some true) = some r := by rw [if_pos rfl] at H; exact H
  clear H; have H := H1; clear H1; obtain rfl := Option.some.inj H
  go_enter Tryz.func3,Tryz.ntmps3
  go_wp2_with (first | ((with_reducible refine gate_callee (f := 4) rfl ?_); refine goesL_ (some 85) rfl rfl Tryz.func4 (by kernel_rfl) rfl #[.slice A0 l0.length c0,.slice A1 l1.length c1] rfl zrr ?_; (with_reducible refine (laws_big.calls _ _ l0 _ _ l1 true _ ?side1 ?side2 ?side3 ?side4 A3.out).mono ?_); (case side1 => repeat (first | exact HR0.out | (with_reducible refine Kd.C_alloc ?_ _) | (with_reducible refine Kd.C_drewN ?_ _) | (with_reducible refine Kd.C_drew ?_))); (case side2 => exact HC0.out); (case side3 => repeat (first | exact HR1.out | (with_reducible refine Kd.C_alloc ?_ _) | (with_reducible refine Kd.C_drewN ?_ _) | (with_reducible refine Kd.C_drew ?_))); (case side4 => exact HC1.out); rintro e w' ⟨rfl,⟨nd,rfl⟩⟩; refine ⟨_,rfl,?_⟩))
  go_ret
  exact ⟨zer,zbw⟩
 ·
  replace c4 := Bool.eq_false_iff.mpr c4; subst c4; have H1 : ((spec_DrawCountNumbers.f k l0).bind fun bt102 => ((impl_CountNumbers.f k bt102.1 bt102.2.1 bt102.2.2).bind fun bt105 => ((spec_CountNumbers.f k bt102.1 bt102.2.1 bt102.2.2).bind fun bt107 => ((impl_NextKeys.f k bt102.1 bt102.2.1).bind fun bt109 => ((spec_NextKeys.f k bt102.1 bt102.2.1).bind fun bt111 => ((impl_CountAllNumbers.f k bt102.1 bt102.2.2).bind fun bt113 => ((spec_CountAllNumbers.f k bt102.1 bt102.2.2).bind fun bt115 => (if (bt105.2 != bt107.2) = true then (laws_FnWalksGo.j0 k l1 bt102.1 bt102.2.1 bt102.2.2 bt105.1 bt105.2 bt109.1 bt109.2 bt113.1 bt113.2 true) else (if bt105.1 = bt107.1 then (if (bt109.2 != bt111.2) = true then (laws_FnWalksGo.j0 k l1 bt102.1 bt102.2.1 bt102.2.2 bt105.1 bt105.2 bt109.1 bt109.2 bt113.1 bt113.2 true) else (if bt109.1.toList = bt111.1.toList then (if (bt113.2 != bt115.2) = true then (laws_FnWalksGo.j0 k l1 bt102.1 bt102.2.1 bt102.2.2 bt105.1 bt105.2 bt109.1 bt109.2 bt113.1 bt113.2 true) else (if bt113.1 = bt115.1 then (if bt105.2 = true then (laws_FnWalksGo.j0 k l1 bt102.1 bt102.2.1 bt102.2.2 bt105.1 bt105.2 bt109.1 bt109.2 bt113.1 bt113.2 (!bt109.2)) else (laws_FnWalksGo.j0 k l1 bt102.1 bt102.2.1 bt102.2.2 bt105.1 bt105.2 bt109.1 bt109.2 bt113.1 bt113.2 false)) else (laws_FnWalksGo.j0 k l1 bt102.1 bt102.2.1 bt102.2.2 bt105.1 bt105.2 bt109.1 bt109.2 bt113.1 bt113.2 true))) else (laws_FnWalksGo.j0 k l1 bt102.1 bt102.2.1 bt102.2.2 bt105.1 bt105.2 bt109.1 bt109.2 bt113.1 bt113.2 true))) else (laws_FnWalksGo.j0 k l1 bt102.1 bt102.2.1 bt102.2.2 bt105.1 bt105.2 bt109.1 bt109.2 bt113.1 bt113.2 true)))))))))) = some r := by rw [if_neg (show ¬ (false = true) by decide)] at H; exact H
  clear H; have H := H1; clear H1; replace H := Option.bind_eq_some_iff.mp H; obtain ⟨⟨t102,t103,t104⟩,A50,H⟩ := H; (try dsimp only at H); have A5 := Aside0.mk A50; clear A50; replace H := Option.bind_eq_some_iff.mp H; obtain ⟨⟨t105,t106⟩,A60,H⟩ := H; (try dsimp only at H); have A6 := Aside0.mk A60; clear A60; replace H := Option.bind_eq_some_iff.mp H; obtain ⟨⟨t107,t108⟩,A70,H⟩ := H; (try dsimp only at H); have A7 := Aside0.mk A70; clear A70; replace H := Option.bind_eq_some_iff.mp H; obtain ⟨⟨t109,t110⟩,A80,H⟩ := H; (try dsimp only at H); have A8 := Aside0.mk A80; clear A80; replace H := Option.bind_eq_some_iff.mp H; obtain ⟨⟨t111,t112⟩,A90,H⟩ := H; (try dsimp only at H); have A9 := Aside0.mk A90; clear A90; replace H := Option.bind_eq_some_iff.mp H; obtain ⟨⟨t113,t114⟩,A100,H⟩ := H; (try dsimp only at H); have A10 := Aside0.mk A100; clear A100; replace H := Option.bind_eq_some_iff.mp H; obtain ⟨⟨t115,t116⟩,A110,H⟩ := H; (try dsimp only at H); have A11 := Aside0.mk A110; clear A110; have HC12 := Aside0.mk H; clear H
  go_enter Tryz.func3,Tryz.ntmps3
  go_upto_region 10 with (first | ((with_reducible refine gate_callee (f := 4) rfl ?_); refine goesL_ (some 85) rfl rfl Tryz.func4 (by kernel_rfl) rfl #[.slice A0 l0.length c0,.slice A1 l1.length c1] rfl zrr ?_; (with_reducible refine (laws_big.calls _ _ l0 _ _ l1 false _ ?side1 ?side2 ?side3 ?side4 A3.out).mono ?_); (case side1 => repeat (first | exact HR0.out | (with_reducible refine Kd.C_alloc ?_ _) | (with_reducible refine Kd.C_drewN ?_ _) | (with_reducible refine Kd.C_drew ?_))); (case side2 => exact HC0.out); (case side3 => repeat (first | exact HR1.out | (with_reducible refine Kd.C_alloc ?_ _) | (with_reducible refine Kd.C_drewN ?_ _) | (with_reducible refine Kd.C_drew ?_))); (case side4 => exact HC1.out); rintro e w' ⟨rfl,⟨nd,rfl⟩⟩; refine ⟨_,rfl,?_⟩) | ((with_reducible refine gate_callee (f := 5) rfl ?_); refine goesL_ (some 88) rfl rfl Tryz.func5 (by kernel_rfl) rfl #[.slice A0 l0.length c0] rfl zrr ?_; (with_reducible refine (spec_DrawCountNumbers.calls k _ _ l0 t102 t103 t104 _ ?side1 ?side2 A5.out).mono ?_); (case side1 => repeat (first | exact HR0.out | (with_reducible refine Kd.C_alloc ?_ _) | (with_reducible refine Kd.C_drewN ?_ _) | (with_reducible refine Kd.C_drew ?_))); (case side2 => exact HC0.out); rintro e w13 ⟨rfl,hb⟩; refine ⟨_,rfl,?_⟩; have n0_ := Aside0.mk (below_step zbw hb); clear HB; have HB := n0_; clear n0_; (try clear hb); (try clear hb2); (try clear hk); (try clear hi)) | ((with_reducible refine gate_callee (f := 6) rfl ?_); refine goesL_ (some 96) rfl rfl Tryz.func6 (by kernel_rfl) rfl #[.string t102,.string t103,.int .i64 t104] rfl zrr ?_; (with_reducible refine (impl_CountNumbers.calls k t102 t103 t104 t105 t106 _ zhm A6.out).mono ?_); rintro e w14 ⟨rfl,hb⟩; refine ⟨_,rfl,?_⟩; have n0_ := Aside0.mk (below_step zbw hb); clear HB; have HB := n0_; clear n0_; (try clear hb); (try clear hb2); (try clear hk); (try clear hi)) | ((with_reducible refine gate_callee (f := 7) rfl ?_); refine goesL_ (some 103) rfl rfl Tryz.func7 (by kernel_rfl) rfl #[.string t102,.string t103,.int .i64 t104] rfl zrr ?_; (with_reducible refine (spec_CountNumbers.calls k t102 t103 t104 t107 t108 _ A7.out).mono ?_); rintro e w15 ⟨rfl,hb⟩; refine ⟨_,rfl,?_⟩; have n0_ := Aside0.mk (below_step zbw hb); clear HB; have HB := n0_; clear n0_; (try clear hb); (try clear hb2); (try clear hk); (try clear hi)) | ((with_reducible refine gate_callee (f := 8) rfl ?_); refine goesL_ (some 109) rfl rfl Tryz.func8 (by kernel_rfl) rfl #[.string t102,.string t103] rfl zrr ?_; (with_reducible refine (impl_NextKeys.calls k t102 t103 t109 t110 _ zhm A8.out).mono ?_); rintro e w16 ⟨rfl,hb⟩; refine ⟨_,rfl,?_⟩; have n0_ := Aside0.mk (below_step zbw hb); clear HB; have HB := n0_; clear n0_; (try clear hb); (try clear hb2); (try clear hk); (try clear hi)) | ((with_reducible refine gate_callee (f := 9) rfl ?_); refine goesL_ (some 115) rfl rfl Tryz.func9 (by kernel_rfl) rfl #[.string t102,.string t103] rfl zrr ?_; (with_reducible refine (spec_NextKeys.calls k t102 t103 t111 t112 _ A9.out).mono ?_); rintro e w' ⟨rfl,⟨nd,rfl⟩⟩; refine ⟨_,rfl,?_⟩) | ((with_reducible refine gate_callee (f := 10) rfl ?_); refine goesL_ (some 121) rfl rfl Tryz.func10 (by kernel_rfl) rfl #[.string t102,.int .i64 t104] rfl zrr ?_; (with_reducible refine (impl_CountAllNumbers.calls k t102 t104 t113 t114 _ zhm A10.out).mono ?_); rintro e w17 ⟨rfl,hb⟩; refine ⟨_,rfl,?_⟩; have n0_ := Aside0.mk (below_step zbw hb); clear HB; have HB := n0_; clear n0_; (try clear hb); (try clear hb2); (try clear hk); (try clear hi)) | ((with_reducible refine gate_callee (f := 11) rfl ?_); refine goesL_ (some 127) rfl rfl Tryz.func11 (by kernel_rfl) rfl #[.string t102,.int .i64 t104] rfl zrr ?_; (with_reducible refine (spec_CountAllNumbers.calls k t102 t104 t115 t116 _ A11.out).mono ?_); rintro e w18 ⟨rfl,hb⟩; refine ⟨_,rfl,?_⟩; have n0_ := Aside0.mk (below_step zbw hb); clear HB; have HB := n0_; clear n0_; (try clear hb); (try clear hb2); (try clear hk); (try clear hi)))
  (try simp only [Act.put,List.setIfInBounds_toArray,List.set_cons_zero,List.set_cons_succ])
  go_cut [164] from 579 (fun v164 wc => ∃ (kq : Nat) (x164_11 : Bool),v164 = .bool x164_11 ∧ Aside0 (laws_FnWalksGo.j0 kq l1 t102 t103 t104 t105 t106 t109 t110 t113 t114 x164_11 = some r) ∧ Aside0 (kq ≤ k) ∧ Aside0 (Below w.heap.size w wc))
  case first =>
   (try dsimp only [List.append])
   have H := HC12.out; clear HC12
   by_cases c19 : (t106 != t108) = true
   · rw [if_pos c19] at H; exact absurd H (by rw [laws_FnWalksGo.j0_none]; simp)
   ·
    rw [if_neg c19] at H; have c19b0 : (t106 != t108) = false := by simpa using c19
    (try (have c19b1 : decide (t106 = t108) = true := by simpa using c19))
    (try (have c19b2 : (t106 == t108) = true := by simpa using c19))
    clear c19
    (first | rw [c19b0] | (simp only [i64_w,i32_w]; rw [c19b0]) | skip)
    by_cases c20 : t105 = t107
    ·
     rw [if_pos c20] at H; have c20b0 : (t105 == t107) = true := beq_iff_eq.mpr c20; have c20b1 : (t105 != t107) = false := bne_eq_false_iff_eq.mpr c20; clear c20
     by_cases c21 : (t110 != t112) = true
     · rw [if_pos c21] at H; exact absurd H (by rw [laws_FnWalksGo.j0_none]; simp)
     ·
      rw [if_neg c21] at H; have c21b0 : (t110 != t112) = false := by simpa using c21
      (try (have c21b1 : decide (t110 = t112) = true := by simpa using c21))
      (try (have c21b2 : (t110 == t112) = true := by simpa using c21))
      clear c21
      by_cases c22 : t109.toList = t111.toList
      ·
       rw [if_pos c22] at H; have c22b0 : (t109.toList == t111.toList) = true := beq_iff_eq.mpr c22; have c22b1 : (t109.toList != t111.toList) = false := bne_eq_false_iff_eq.mpr c22; clear c22
       by_cases c23 : (t114 != t116) = true
       · rw [if_pos c23] at H; exact absurd H (by rw [laws_FnWalksGo.j0_none]; simp)
       ·
        rw [if_neg c23] at H; have c23b0 : (t114 != t116) = false := by simpa using c23
        (try (have c23b1 : decide (t114 = t116) = true := by simpa using c23))
        (try (have c23b2 : (t114 == t116) = true := by simpa using c23))
        clear c23
        by_cases c24 : t113 = t115
        ·
         rw [if_pos c24] at H; have c24b0 : (t113 == t115) = true := beq_iff_eq.mpr c24; have c24b1 : (t113 != t115) = false := bne_eq_false_iff_eq.mpr c24; clear c24
         by_cases c25 : t106 = true
         ·
          subst c25; have H1 : (laws_FnWalksGo.j0 k l1 t102 t103 t104 t105 true t109 t110 t113 t114 (!t110)) = some r := by rw [if_pos rfl] at H; exact H
          clear H; have H := H1; clear H1; have H' := Aside0.mk H; clear H; go_wp2
          go_meet
          case rel => exact ⟨_,(!t110),zrs,H',⟨by first | omega | exact Nat.le_refl _⟩,⟨zbw⟩⟩
         ·
          replace c25 := Bool.eq_false_iff.mpr c25; subst c25; have H1 : (laws_FnWalksGo.j0 k l1 t102 t103 t104 t105 false t109 t110 t113 t114 false) = some r := by rw [if_neg (show ¬ (false = true) by decide)] at H; exact H
          clear H; have H := H1; clear H1; have H' := Aside0.mk H; clear H; go_wp2
          go_meet
          case rel => exact ⟨_,(false),zrs,H',⟨by first | omega | exact Nat.le_refl _⟩,⟨zbw⟩⟩
        · rw [if_neg c24] at H; exact absurd H (by rw [laws_FnWalksGo.j0_none]; simp)
      · rw [if_neg c22] at H; exact absurd H (by rw [laws_FnWalksGo.j0_none]; simp)
    · rw [if_neg c20] at H; exact absurd H (by rw [laws_FnWalksGo.j0_none]; simp)
  case rest =>
   clear HC12; try clear c1
   try clear c2
   try clear p2
   try clear c3
   try clear c4
   try clear c5
   try clear c6
   try clear c7
   try clear c8
   try clear c9
   try clear c10
   try clear c11
   try clear c19
   try clear c19b0
   try clear c19b1
   try clear c19b2
   try clear c20
   try clear c20b0
   try clear c20b1
   try clear c21
   try clear c21b0
   try clear c21b1
   try clear c21b2
   try clear c22
   try clear c22b0
   try clear c22b1
   try clear c23
   try clear c23b0
   try clear c23b1
   try clear c23b2
   try clear c24
   try clear c24b0
   try clear c24b1
   try clear c25
   obtain ⟨kq,x164_11,rfl,HA,HJ11,HB⟩ := hcut
   cases kq with
   | zero => exact absurd HA.out (by simp [laws_FnWalksGo.j0])
   | succ kj11 =>
    have H := HA.out; clear HA; simp only [laws_FnWalksGo.j0] at H
    by_cases c26 : x164_11 = true
    ·
     subst c26; have H1 : (none : Option Bool) = some r := by rw [if_pos rfl] at H; exact H
     exact absurd H1 (by simp)
    ·
     replace c26 := Bool.eq_false_iff.mpr c26; subst c26; have H1 : (if t110 = true then (laws_FnWalksGo.l0 kj11 l1 t102 t103 t104 t105 t106 t109 t113 t114 t109 0) else (laws_FnWalksGo.j2 kj11 l1 t102 t104 t105 t106 t109 t113 t114)) = some r := by rw [if_neg (show ¬ (false = true) by decide)] at H; exact H
     clear H; have H := H1; clear H1; have HC27 := Aside0.mk H; clear H
     go_upto_if 165 with (fail)
     go_cut [] from 579 (fun wc => ∃ (kq : Nat),Aside0 (laws_FnWalksGo.j2 kq l1 t102 t104 t105 t106 t109 t113 t114 = some r) ∧ Aside0 (kq ≤ kj11) ∧ Aside0 (Below w.heap.size w wc))
     case first =>
      (try dsimp only [List.append])
      have H := HC27.out; clear HC27
      by_cases c28 : t110 = true
      ·
       subst c28; have H1 : (laws_FnWalksGo.l0 kj11 l1 t102 t103 t104 t105 t106 t109 t113 t114 t109 0) = some r := by rw [if_pos rfl] at H; exact H
       clear H; have H := H1; clear H1; have H' := Aside0.mk H; clear H; go_wp2
       obtain ⟨g167,wi_,hg_,hwi_,it_,ib_,hq_⟩ := iter_split (s := t109) HB.out HB.out.size; rw [← hg_,← hwi_]; have IT167 := Aside0.mk it_; have HG167 := Aside0.mk hq_; clear HB it_ hq_ hg_ hwi_; have HB := Aside0.mk ib_; clear ib_
       go_loopg [] kj11 (fun kq w' => ∃ (x167_2 : Int),Aside0 (0 ≤ x167_2 ∧ w'.heap[g167]? = some (.stringIter t109 x167_2.toNat)) ∧ Aside0 (laws_FnWalksGo.l0 kq l1 t102 t103 t104 t105 t106 t109 t113 t114 t109 x167_2 = some r) ∧ Aside0 (kq ≤ kj11) ∧ Aside0 (Below w.heap.size w w'))
       case atStart => exact ⟨(0),⟨⟨by decide,IT167.out⟩⟩,H',⟨Nat.le_refl _⟩,⟨zbw⟩⟩
       case round =>
        clear H' IT167; try clear c1
        try clear c2
        try clear p2
        try clear c3
        try clear c4
        try clear c5
        try clear c6
        try clear c7
        try clear c8
        try clear c9
        try clear c10
        try clear c11
        try clear c19
        try clear c19b0
        try clear c19b1
        try clear c19b2
        try clear c20
        try clear c20b0
        try clear c20b1
        try clear c21
        try clear c21b0
        try clear c21b1
        try clear c21b2
        try clear c22
        try clear c22b0
        try clear c22b1
        try clear c23
        try clear c23b0
        try clear c23b1
        try clear c23b2
        try clear c24
        try clear c24b0
        try clear c24b1
        try clear c25
        try clear c26
        try clear c28
        try clear p2
        obtain ⟨x167_2,HIT167,HA,HK2,HB⟩ := hrel
        cases gk with
        | zero => exact absurd HA.out (by simp [laws_FnWalksGo.l0])
        | succ k2 =>
         have H := HA.out; clear HA; simp only [laws_FnWalksGo.l0] at H
         by_cases c29 : x167_2 < (t109.size : Int)
         ·
          rw [if_pos c29] at H
          have hasc_ : (bt t109 x167_2) < 128 ∧ t109.size ≤ 1048576 := by
           by_cases c : (bt t109 x167_2) < 128 ∧ t109.size ≤ 1048576
           · exact c
           · rw [if_neg c] at H; cases H
          rw [if_pos hasc_] at H; have hnx167 := fun ty => run_next_atI (P := Tryz.prog) ty HIT167.out.1 HIT167.out.2 c29 hasc_.1
          have JT167 := Aside0.mk (iterAt_heap (s := t109) (pos := x167_2.toNat + 1) HIT167.out.2); have jb_ := Aside0.mk (iterAt_below (s := t109) (pos := x167_2.toNat + 1) HB.out HG167.out); have JX167 := Aside0.mk (show wrap64 (x167_2 + 1) = x167_2 + 1 from step_ok HIT167.out.1 c29 hasc_.2); have J0167 := Aside0.mk HIT167.out.1; clear HB HIT167 hasc_; generalize iterAt _ g167 t109 (x167_2.toNat + 1) = wj at hnx167 JT167 jb_; have HB := jb_; clear jb_; have c29b0 : decide (x167_2 < (t109.size : Int)) = true := decide_eq_true c29; clear c29
          (first | rw [c29b0] | (simp only [i64_w,i32_w]; rw [c29b0]) | skip)
          by_cases c30 : 0 ≤ x167_2
          ·
           rw [if_pos c30] at H; have c30b0 := eq_true c30; have c30b1 : decide (0 ≤ x167_2) = true := decide_eq_true c30; clear c30
           by_cases c31 : x167_2 ≤ (wrap64 (x167_2 + 1))
           ·
            rw [if_pos c31] at H; have c31b0 := eq_true c31; have c31b1 : decide (x167_2 ≤ (wrap64 (x167_2 + 1))) = true := decide_eq_true c31
            by_cases c32 : (wrap64 (x167_2 + 1)) ≤ (t109.size : Int)
            ·
             rw [if_pos c32] at H; have c32b0 := eq_true c32; have c32b1 : decide ((wrap64 (x167_2 + 1)) ≤ (t109.size : Int)) = true := decide_eq_true c32; replace H := Option.bind_eq_some_iff.mp H; obtain ⟨⟨t117,t118⟩,A330,H⟩ := H; (try dsimp only at H); have A33 := Aside0.mk A330; clear A330
             by_cases c34 : t118 = true
             ·
              subst c34; have H1 : (if 0 < (t103.size : Int) then ((laws_fSign.f k2 t117 (bt t103 0)).bind fun t119 => (if t119 = true then (if x167_2 < (t109.size : Int) then (if (bt t109 x167_2) = (bt t103 0) then none else (if x167_2 > 0 then (if 0 ≤ (wrap64 (x167_2 - 1)) then (if (wrap64 (x167_2 - 1)) < (t109.size : Int) then (if (bt t109 (wrap64 (x167_2 - 1))) ≥ (bt t109 x167_2) then none else (laws_FnWalksGo.l0 k2 l1 t102 t103 t104 t105 t106 t109 t113 t114 t109 (wrap64 (x167_2 + 1)))) else (none)) else (none)) else (laws_FnWalksGo.l0 k2 l1 t102 t103 t104 t105 t106 t109 t113 t114 t109 (wrap64 (x167_2 + 1))))) else (none)) else none)) else (none)) = some r := by rw [if_pos rfl] at H; exact H
              clear H; have H := H1; clear H1
              by_cases c35 : 0 < (t103.size : Int)
              ·
               rw [if_pos c35] at H; have c35b0 : decide (0 < (t103.size : Int)) = true := decide_eq_true c35; have c35b1 : decide (0 < t103.size) = true := decide_eq_true (by omega); clear c35; replace H := Option.bind_eq_some_iff.mp H; obtain ⟨t119,A370,H⟩ := H; (try dsimp only at H); have A37 := Aside0.mk A370; clear A370
               by_cases c38 : t119 = true
               ·
                subst c38; have H1 : (if x167_2 < (t109.size : Int) then (if (bt t109 x167_2) = (bt t103 0) then none else (if x167_2 > 0 then (if 0 ≤ (wrap64 (x167_2 - 1)) then (if (wrap64 (x167_2 - 1)) < (t109.size : Int) then (if (bt t109 (wrap64 (x167_2 - 1))) ≥ (bt t109 x167_2) then none else (laws_FnWalksGo.l0 k2 l1 t102 t103 t104 t105 t106 t109 t113 t114 t109 (wrap64 (x167_2 + 1)))) else (none)) else (none)) else (laws_FnWalksGo.l0 k2 l1 t102 t103 t104 t105 t106 t109 t113 t114 t109 (wrap64 (x167_2 + 1))))) else (none)) = some r := by rw [if_pos rfl] at H; exact H
                clear H; have H := H1; clear H1
                by_cases c39 : x167_2 < (t109.size : Int)
                ·
                 rw [if_pos c39] at H; have c39b0 : decide (x167_2 < (t109.size : Int)) = true := decide_eq_true c39; clear c39
                 by_cases c42 : (bt t109 x167_2) = (bt t103 0)
                 · rw [if_pos c42] at H; exact absurd H (by simp)
                 ·
                  rw [if_neg c42] at H; have c42b0 : ((bt t109 x167_2) == (bt t103 0)) = false := beq_eq_false_iff_ne.mpr c42; have c42b1 : ((bt t109 x167_2) != (bt t103 0)) = true := bne_iff_ne.mpr c42
                  by_cases c45 : x167_2 > 0
                  ·
                   rw [if_pos c45] at H; have c45b0 : decide (0 < x167_2) = true := decide_eq_true c45; clear c45; obtain ⟨ji46,hji46⟩ : ∃ j_ : Int,(wrap64 (x167_2 - 1)) = j_ := ⟨_,rfl⟩; replace H : (if 0 ≤ (ji46) then (if (ji46) < (t109.size : Int) then (if (bt t109 (ji46)) ≥ (bt t109 x167_2) then none else (laws_FnWalksGo.l0 k2 l1 t102 t103 t104 t105 t106 t109 t113 t114 t109 (wrap64 (x167_2 + 1)))) else (none)) else (none)) = some r := by first | (rw [hji46] at H; exact H) | (simp only [hji46] at H ⊢; exact H)
                   (try rw [hji46] at A33)
                   (try rw [hji46] at A37)
                   have hji46w : (IntKind.i64.wrap (x167_2 - 1)) = ji46 := (i64_w _).trans hji46
                   by_cases c47 : 0 ≤ (ji46)
                   ·
                    rw [if_pos c47] at H; have c47b0 : decide (0 ≤ (ji46)) = true := decide_eq_true c47; clear c47
                    by_cases c48 : (ji46) < (t109.size : Int)
                    ·
                     rw [if_pos c48] at H; have c48b0 : decide ((ji46) < (t109.size : Int)) = true := decide_eq_true c48; clear c48
                     by_cases c51 : (bt t109 (ji46)) ≥ (bt t109 x167_2)
                     · rw [if_pos c51] at H; exact absurd H (by simp)
                     ·
                      rw [if_neg c51] at H; have c51b0 : decide ((bt t109 x167_2) ≤ (bt t109 (ji46))) = false := decide_eq_false c51; clear c51; have H' := Aside0.mk H; clear H; try go_wp2_with (first | ((with_reducible refine gate_callee (f := 8) rfl ?_); refine goesL_ (some 178) rfl rfl Tryz.func8 (by kernel_rfl) rfl #[.string t102,.string (t109.extract (x167_2 : Int).toNat ((wrap64 (x167_2 + 1)) : Int).toNat)] rfl zrr ?_; (with_reducible refine (impl_NextKeys.calls k2 t102 (t109.extract (x167_2 : Int).toNat ((wrap64 (x167_2 + 1)) : Int).toNat) t117 true _ zhm A33.out).mono ?_); rintro e w54 ⟨rfl,hb⟩; have j0_ := Aside0.mk ((hb.block g167 (blk_lt JT167.out)).trans JT167.out); clear JT167; have JT167 := j0_; clear j0_; refine ⟨_,rfl,?_⟩; have n0_ := Aside0.mk (below_step zbw hb); clear HB; have HB := n0_; clear n0_; (try clear hb); (try clear hb2); (try clear hk); (try clear hi)))
                      have n0_ := Aside0.mk (below_drew1 HB.out); clear HB; have HB := n0_; clear n0_; have p36 : 0 ≤ (0 : Int) := (by omega); have q36 : 0 < t103.size := (by have : (0 : Int) < (t103.size : Int) := zdd; omega); have hx36 : ∀ h : 0 < t103.size,((t103[0]'h).toNat : Int) = bt t103 0 := bt_at t103 0; clear p36; have qi36 : (0 < (t103.size : Int)) = True := eq_true (zdd); replace q36 := eq_true q36; refine start_ (n := 31) (S := fun w' => True) (ds := []) #[false,false,false,false,false,false,false,false,false,false,false,false,false,false,false,false,false,false,false,false,false,false,false,false,false,false,false,false,false,false,false] (by kernel_rfl) rfl rfl trivial (fun hHeld => ?_); refine with_tabW laws_FnWalksGo.tab17 laws_FnWalksGo.bits17 (fun HT_ HW_ => ?_)
                      have j0_ : Aside0 (w54.drew.heap[g167]? = some (.stringIter t109 (x167_2.toNat + 1))) := ⟨JT167.out⟩; clear JT167; have JT167 := j0_; clear j0_; generalize w54.drew = w55 at HB hHeld JT167 ⊢; refine pure_ (i := 0) (N := some 181) (v := ?_) (a' := ?_) #[true,false,false,false,false,false,false,false,false,false,false,false,false,false,false,false,false,false,false,false,false,false,false,false,false,false,false,false,false,false,false] rfl rfl (any_of HT_.out (by kernel_rfl)) (fun _ _ _ h => h) (Or.inl ⟨by rfl,?_⟩) ?_ ?_; rotate_left
                      · intro w'; go_simp; with_reducible rfl
                      rotate_left
                      · simp only [Act.put,List.setIfInBounds_toArray,List.set_cons_zero,List.set_cons_succ,i64_w,i32_w]; rfl
                      refine pure_ (i := 1) (N := some 182) (v := ?_) (a' := ?_) #[true,true,false,false,false,false,false,false,false,false,false,false,false,false,false,false,false,false,false,false,false,false,false,false,false,false,false,false,false,false,false] rfl rfl (any_of HT_.out (by kernel_rfl)) (fun _ _ _ h => h) (Or.inl ⟨by rfl,?_⟩) ?_ ?_; rotate_left
                      · intro w'; go_simp; with_reducible rfl
                      rotate_left
                      · simp only [Act.put,List.setIfInBounds_toArray,List.set_cons_zero,List.set_cons_succ,i64_w,i32_w]; rfl
                      refine pure_ (i := 2) (N := some 183) (v := ?_) (a' := ?_) #[true,true,true,false,false,false,false,false,false,false,false,false,false,false,false,false,false,false,false,false,false,false,false,false,false,false,false,false,false,false,false] rfl rfl (any_of HT_.out (by kernel_rfl)) (fun _ _ _ h => h) (Or.inl ⟨by rfl,?_⟩) ?_ ?_; rotate_left
                      · intro w'; go_simp; with_reducible rfl
                      rotate_left
                      · simp only [Act.put,List.setIfInBounds_toArray,List.set_cons_zero,List.set_cons_succ,i64_w,i32_w]; rfl
                      refine pure_ (i := 3) (N := some 184) (v := ?_) (a' := ?_) #[true,true,true,true,false,false,false,false,false,false,false,false,false,false,false,false,false,false,false,false,false,false,false,false,false,false,false,false,false,false,false] rfl rfl (any_of HT_.out (by kernel_rfl)) (fun _ _ _ h => h) (Or.inl ⟨by rfl,?_⟩) ?_ ?_; rotate_left
                      · intro w'; go_simp; with_reducible rfl
                      rotate_left
                      · simp only [Act.put,List.setIfInBounds_toArray,List.set_cons_zero,List.set_cons_succ,i64_w,i32_w]; rfl
                      refine pure_ (i := 4) (N := some 185) (v := ?_) (a' := ?_) #[true,true,true,true,true,false,false,false,false,false,false,false,false,false,false,false,false,false,false,false,false,false,false,false,false,false,false,false,false,false,false] rfl rfl (any_of HT_.out (by kernel_rfl)) (fun _ _ _ h => h) (Or.inl ⟨by rfl,?_⟩) ?_ ?_; rotate_left
                      · intro w'; go_simp; with_reducible rfl
                      rotate_left
                      · simp only [Act.put,List.setIfInBounds_toArray,List.set_cons_zero,List.set_cons_succ,i64_w,i32_w]; rfl
                      refine take_ (i := 5) (N := some 186) (v := ?_) (a' := ?_) #[true,true,true,true,true,true,false,false,false,false,false,false,false,false,false,false,false,false,false,false,false,false,false,false,false,false,false,false,false,false,false] rfl rfl (take_ofW HT_.out HW_.out (by kernel_rfl)) (fun _ _ _ h => h) (Or.inl ⟨by rfl,?_⟩) hHeld ?_ ?_; rotate_left
                      · intro w' _; go_simp; with_reducible rfl
                      rotate_left
                      · simp only [Act.put,List.setIfInBounds_toArray,List.set_cons_zero,List.set_cons_succ,i64_w,i32_w]; rfl
                      refine one_ (i := 6) (N := some 187) #[true,true,true,true,true,true,true,false,false,false,false,false,false,false,false,false,false,false,false,false,false,false,false,false,false,false,false,false,false,false,false] rfl rfl (one_of HT_.out (by kernel_rfl)) (by decide) (fun K hK => ?_); refine goes_ Tryz.func12 (by kernel_rfl) rfl #[.string t117,.int .u8 (bt t103 0)] (by rfl) rfl rfl zrr ?_; with_reducible refine (laws_fSign.calls k2 t117 (bt t103 0) true _ A37.out).mono ?_
                      rintro e w' ⟨rfl,⟨nd,rfl⟩⟩; refine ⟨_,rfl,?_⟩; have p40 : 0 ≤ (x167_2 : Int) := zdd; have q40 : x167_2 < (t109.size : Int) := zdd; have hx40 := bt_at t109 x167_2; replace p40 := eq_true p40; replace q40 := eq_true q40; have p41 : 0 ≤ (0 : Int) := (by omega); have q41 : 0 < t103.size := (by have : (0 : Int) < (t103.size : Int) := zdd; omega); have hx41 : ∀ h : 0 < t103.size,((t103[0]'h).toNat : Int) = bt t103 0 := bt_at t103 0; clear p41; have qi41 : (0 < (t103.size : Int)) = True := eq_true (zdd); replace q41 := eq_true q41; have p49 : 0 ≤ ((ji46) : Int) := zdd; have q49 : (ji46) < (t109.size : Int) := zdd; have hx49 := bt_at t109 (ji46); replace p49 := eq_true p49; replace q49 := eq_true q49; have p50 : 0 ≤ (x167_2 : Int) := zdd; have q50 : x167_2 < (t109.size : Int) := zdd; have hx50 := bt_at t109 x167_2; replace p50 := eq_true p50; replace q50 := eq_true q50; refine hK.out _ _ trivial (fun hHeld => ?_); clear hK K; refine norm_ (a' := ?_) ?_ ?_; rotate_left
                      ·
                       show Act.put _ (some 187) _ = _
                       simp only [Act.put,List.setIfInBounds_toArray,List.set_cons_zero,List.set_cons_succ,i64_w,i32_w]; rfl
                      refine pure_ (i := 7) (N := some 188) (v := ?_) (a' := ?_) #[true,true,true,true,true,true,true,true,false,false,false,false,false,false,false,false,false,false,false,false,false,false,false,false,false,false,false,false,false,false,false] rfl rfl (any_of HT_.out (by kernel_rfl)) (fun _ _ _ h => h) (Or.inl ⟨by rfl,?_⟩) ?_ ?_; rotate_left
                      · intro w'; go_simp; with_reducible rfl
                      rotate_left
                      · simp only [Act.put,List.setIfInBounds_toArray,List.set_cons_zero,List.set_cons_succ,i64_w,i32_w]; rfl
                      refine pure_ (i := 8) (N := some 189) (v := ?_) (a' := ?_) #[true,true,true,true,true,true,true,true,true,false,false,false,false,false,false,false,false,false,false,false,false,false,false,false,false,false,false,false,false,false,false] rfl rfl (any_of HT_.out (by kernel_rfl)) (fun _ _ _ h => h) (Or.inl ⟨by rfl,?_⟩) ?_ ?_; rotate_left
                      · intro w'; go_simp; with_reducible rfl
                      rotate_left
                      · simp only [Act.put,List.setIfInBounds_toArray,List.set_cons_zero,List.set_cons_succ,i64_w,i32_w]; rfl
                      refine pure_ (i := 9) (N := some 190) (v := ?_) (a' := ?_) #[true,true,true,true,true,true,true,true,true,true,false,false,false,false,false,false,false,false,false,false,false,false,false,false,false,false,false,false,false,false,false] rfl rfl (any_of HT_.out (by kernel_rfl)) (fun _ _ _ h => h) (Or.inl ⟨by rfl,?_⟩) ?_ ?_; rotate_left
                      · intro w'; go_simp; with_reducible rfl
                      rotate_left
                      · simp only [Act.put,List.setIfInBounds_toArray,List.set_cons_zero,List.set_cons_succ,i64_w,i32_w]; rfl
                      refine pure_ (i := 10) (N := some 191) (v := ?_) (a' := ?_) #[true,true,true,true,true,true,true,true,true,true,true,false,false,false,false,false,false,false,false,false,false,false,false,false,false,false,false,false,false,false,false] rfl rfl (any_of HT_.out (by kernel_rfl)) (fun _ _ _ h => h) (Or.inl ⟨by rfl,?_⟩) ?_ ?_; rotate_left
                      · intro w'; go_simp; with_reducible rfl
                      rotate_left
                      · simp only [Act.put,List.setIfInBounds_toArray,List.set_cons_zero,List.set_cons_succ,i64_w,i32_w]; rfl
                      refine pure_ (i := 11) (N := some 192) (v := ?_) (a' := ?_) #[true,true,true,true,true,true,true,true,true,true,true,true,false,false,false,false,false,false,false,false,false,false,false,false,false,false,false,false,false,false,false] rfl rfl (any_of HT_.out (by kernel_rfl)) (fun _ _ _ h => h) (Or.inl ⟨by rfl,?_⟩) ?_ ?_; rotate_left
                      · intro w'; go_simp; with_reducible rfl
                      rotate_left
                      · simp only [Act.put,List.setIfInBounds_toArray,List.set_cons_zero,List.set_cons_succ,i64_w,i32_w]; rfl
                      refine pure_ (i := 13) (N := some 194) (v := ?_) (a' := ?_) #[true,true,true,true,true,true,true,true,true,true,true,true,false,true,false,false,false,false,false,false,false,false,false,false,false,false,false,false,false,false,false] rfl rfl (any_of HT_.out (by kernel_rfl)) (fun _ _ _ h => h) (Or.inl ⟨by rfl,?_⟩) ?_ ?_; rotate_left
                      · intro w'; go_simp; with_reducible rfl
                      rotate_left
                      · simp only [Act.put,List.setIfInBounds_toArray,List.set_cons_zero,List.set_cons_succ,i64_w,i32_w]; rfl
                      refine take_ (i := 12) (N := some 193) (v := ?_) (a' := ?_) #[true,true,true,true,true,true,true,true,true,true,true,true,true,true,false,false,false,false,false,false,false,false,false,false,false,false,false,false,false,false,false] rfl rfl (take_ofW HT_.out HW_.out (by kernel_rfl)) (fun _ _ _ h => h) (Or.inl ⟨by rfl,?_⟩) hHeld ?_ ?_; rotate_left
                      · intro w' _; go_simp; with_reducible rfl
                      rotate_left
                      · simp only [Act.put,List.setIfInBounds_toArray,List.set_cons_zero,List.set_cons_succ,i64_w,i32_w]; rfl
                      refine take_ (i := 14) (N := some 195) (v := ?_) (a' := ?_) #[true,true,true,true,true,true,true,true,true,true,true,true,true,true,true,false,false,false,false,false,false,false,false,false,false,false,false,false,false,false,false] rfl rfl (take_ofW HT_.out HW_.out (by kernel_rfl)) (fun _ _ _ h => h) (Or.inl ⟨by rfl,?_⟩) hHeld ?_ ?_; rotate_left
                      · intro w' _; go_simp; with_reducible rfl
                      rotate_left
                      · simp only [Act.put,List.setIfInBounds_toArray,List.set_cons_zero,List.set_cons_succ,i64_w,i32_w]; rfl
                      refine pure_ (i := 15) (N := some 196) (v := ?_) (a' := ?_) #[true,true,true,true,true,true,true,true,true,true,true,true,true,true,true,true,false,false,false,false,false,false,false,false,false,false,false,false,false,false,false] rfl rfl (any_of HT_.out (by kernel_rfl)) (fun _ _ _ h => h) (Or.inl ⟨by rfl,?_⟩) ?_ ?_; rotate_left
                      · intro w'; go_simp; with_reducible rfl
                      rotate_left
                      · simp only [Act.put,List.setIfInBounds_toArray,List.set_cons_zero,List.set_cons_succ,i64_w,i32_w]; rfl
                      refine pure_ (i := 16) (N := some 197) (v := ?_) (a' := ?_) #[true,true,true,true,true,true,true,true,true,true,true,true,true,true,true,true,true,false,false,false,false,false,false,false,false,false,false,false,false,false,false] rfl rfl (any_of HT_.out (by kernel_rfl)) (fun _ _ _ h => h) (Or.inl ⟨by rfl,?_⟩) ?_ ?_; rotate_left
                      · intro w'; go_simp; with_reducible rfl
                      rotate_left
                      · simp only [Act.put,List.setIfInBounds_toArray,List.set_cons_zero,List.set_cons_succ,i64_w,i32_w]; rfl
                      refine pure_ (i := 17) (N := some 198) (v := ?_) (a' := ?_) #[true,true,true,true,true,true,true,true,true,true,true,true,true,true,true,true,true,true,false,false,false,false,false,false,false,false,false,false,false,false,false] rfl rfl (any_of HT_.out (by kernel_rfl)) (fun _ _ _ h => h) (Or.inl ⟨by rfl,?_⟩) ?_ ?_; rotate_left
                      · intro w'; go_simp; with_reducible rfl
                      rotate_left
                      · simp only [Act.put,List.setIfInBounds_toArray,List.set_cons_zero,List.set_cons_succ,i64_w,i32_w]; rfl
                      refine pure_ (i := 18) (N := some 199) (v := ?_) (a' := ?_) #[true,true,true,true,true,true,true,true,true,true,true,true,true,true,true,true,true,true,true,false,false,false,false,false,false,false,false,false,false,false,false] rfl rfl (any_of HT_.out (by kernel_rfl)) (fun _ _ _ h => h) (Or.inl ⟨by rfl,?_⟩) ?_ ?_; rotate_left
                      · intro w'; go_simp; with_reducible rfl
                      rotate_left
                      · simp only [Act.put,List.setIfInBounds_toArray,List.set_cons_zero,List.set_cons_succ,i64_w,i32_w]; rfl
                      refine pure_ (i := 19) (N := some 200) (v := ?_) (a' := ?_) #[true,true,true,true,true,true,true,true,true,true,true,true,true,true,true,true,true,true,true,true,false,false,false,false,false,false,false,false,false,false,false] rfl rfl (any_of HT_.out (by kernel_rfl)) (fun _ _ _ h => h) (Or.inl ⟨by rfl,?_⟩) ?_ ?_; rotate_left
                      · intro w'; go_simp; with_reducible rfl
                      rotate_left
                      · simp only [Act.put,List.setIfInBounds_toArray,List.set_cons_zero,List.set_cons_succ,i64_w,i32_w]; rfl
                      refine pure_ (i := 20) (N := some 201) (v := ?_) (a' := ?_) #[true,true,true,true,true,true,true,true,true,true,true,true,true,true,true,true,true,true,true,true,true,false,false,false,false,false,false,false,false,false,false] rfl rfl (any_of HT_.out (by kernel_rfl)) (fun _ _ _ h => h) (Or.inl ⟨by rfl,?_⟩) ?_ ?_; rotate_left
                      · intro w'; go_simp; with_reducible rfl
                      rotate_left
                      · simp only [Act.put,List.setIfInBounds_toArray,List.set_cons_zero,List.set_cons_succ,i64_w,i32_w]; rfl
                      refine pure_ (i := 21) (N := some 202) (v := ?_) (a' := ?_) #[true,true,true,true,true,true,true,true,true,true,true,true,true,true,true,true,true,true,true,true,true,true,false,false,false,false,false,false,false,false,false] rfl rfl (any_of HT_.out (by kernel_rfl)) (fun _ _ _ h => h) (Or.inl ⟨by rfl,?_⟩) ?_ ?_; rotate_left
                      · intro w'; go_simp; with_reducible rfl
                      rotate_left
                      · simp only [Act.put,List.setIfInBounds_toArray,List.set_cons_zero,List.set_cons_succ,i64_w,i32_w]; rfl
                      refine pure_ (i := 22) (N := some 203) (v := ?_) (a' := ?_) #[true,true,true,true,true,true,true,true,true,true,true,true,true,true,true,true,true,true,true,true,true,true,true,false,false,false,false,false,false,false,false] rfl rfl (any_of HT_.out (by kernel_rfl)) (fun _ _ _ h => h) (Or.inl ⟨by rfl,?_⟩) ?_ ?_; rotate_left
                      · intro w'; go_simp; with_reducible rfl
                      rotate_left
                      · simp only [Act.put,List.setIfInBounds_toArray,List.set_cons_zero,List.set_cons_succ,i64_w,i32_w]; rfl
                      refine pure_ (i := 23) (N := some 204) (v := ?_) (a' := ?_) #[true,true,true,true,true,true,true,true,true,true,true,true,true,true,true,true,true,true,true,true,true,true,true,true,false,false,false,false,false,false,false] rfl rfl (any_of HT_.out (by kernel_rfl)) (fun _ _ _ h => h) (Or.inl ⟨by rfl,?_⟩) ?_ ?_; rotate_left
                      · intro w'; go_simp; with_reducible rfl
                      rotate_left
                      · simp only [Act.put,List.setIfInBounds_toArray,List.set_cons_zero,List.set_cons_succ,i64_w,i32_w]; rfl
                      refine pure_ (i := 25) (N := some 206) (v := ?_) (a' := ?_) #[true,true,true,true,true,true,true,true,true,true,true,true,true,true,true,true,true,true,true,true,true,true,true,true,false,true,false,false,false,false,false] rfl rfl (any_of HT_.out (by kernel_rfl)) (fun _ _ _ h => h) (Or.inl ⟨by rfl,?_⟩) ?_ ?_; rotate_left
                      · intro w'; go_simp; with_reducible rfl
                      rotate_left
                      · simp only [Act.put,List.setIfInBounds_toArray,List.set_cons_zero,List.set_cons_succ,i64_w,i32_w]; rfl
                      refine pure_ (i := 26) (N := some 207) (v := ?_) (a' := ?_) #[true,true,true,true,true,true,true,true,true,true,true,true,true,true,true,true,true,true,true,true,true,true,true,true,false,true,true,false,false,false,false] rfl rfl (any_of HT_.out (by kernel_rfl)) (fun _ _ _ h => h) (Or.inl ⟨by rfl,?_⟩) ?_ ?_; rotate_left
                      · intro w'; go_simp; with_reducible rfl
                      rotate_left
                      · simp only [Act.put,List.setIfInBounds_toArray,List.set_cons_zero,List.set_cons_succ,i64_w,i32_w]; rfl
                      refine take_ (i := 24) (N := some 205) (v := ?_) (a' := ?_) #[true,true,true,true,true,true,true,true,true,true,true,true,true,true,true,true,true,true,true,true,true,true,true,true,true,true,true,false,false,false,false] rfl rfl (take_ofW HT_.out HW_.out (by kernel_rfl)) (fun _ _ _ h => h) (Or.inl ⟨by rfl,?_⟩) hHeld ?_ ?_; rotate_left
                      · intro w' _; go_simp; with_reducible rfl
                      rotate_left
                      · simp only [Act.put,List.setIfInBounds_toArray,List.set_cons_zero,List.set_cons_succ,i64_w,i32_w]; rfl
                      refine take_ (i := 27) (N := some 208) (v := ?_) (a' := ?_) #[true,true,true,true,true,true,true,true,true,true,true,true,true,true,true,true,true,true,true,true,true,true,true,true,true,true,true,true,false,false,false] rfl rfl (take_ofW HT_.out HW_.out (by kernel_rfl)) (fun _ _ _ h => h) (Or.inl ⟨by rfl,?_⟩) hHeld ?_ ?_; rotate_left
                      · intro w' _; go_simp; with_reducible rfl
                      rotate_left
                      · simp only [Act.put,List.setIfInBounds_toArray,List.set_cons_zero,List.set_cons_succ,i64_w,i32_w]; rfl
                      refine pure_ (i := 28) (N := some 209) (v := ?_) (a' := ?_) #[true,true,true,true,true,true,true,true,true,true,true,true,true,true,true,true,true,true,true,true,true,true,true,true,true,true,true,true,true,false,false] rfl rfl (any_of HT_.out (by kernel_rfl)) (fun _ _ _ h => h) (Or.inl ⟨by rfl,?_⟩) ?_ ?_; rotate_left
                      · intro w'; go_simp; with_reducible rfl
                      rotate_left
                      · simp only [Act.put,List.setIfInBounds_toArray,List.set_cons_zero,List.set_cons_succ,i64_w,i32_w]; rfl
                      refine pure_ (i := 29) (N := some 210) (v := ?_) (a' := ?_) #[true,true,true,true,true,true,true,true,true,true,true,true,true,true,true,true,true,true,true,true,true,true,true,true,true,true,true,true,true,true,false] rfl rfl (any_of HT_.out (by kernel_rfl)) (fun _ _ _ h => h) (Or.inl ⟨by rfl,?_⟩) ?_ ?_; rotate_left
                      · intro w'; go_simp; with_reducible rfl
                      rotate_left
                      · simp only [Act.put,List.setIfInBounds_toArray,List.set_cons_zero,List.set_cons_succ,i64_w,i32_w]; rfl
                      refine pure_ (i := 30) (N := some 211) (v := ?_) (a' := ?_) #[true,true,true,true,true,true,true,true,true,true,true,true,true,true,true,true,true,true,true,true,true,true,true,true,true,true,true,true,true,true,true] rfl rfl (any_of HT_.out (by kernel_rfl)) (fun _ _ _ h => h) (Or.inl ⟨by rfl,?_⟩) ?_ ?_; rotate_left
                      · intro w'; go_simp; with_reducible rfl
                      rotate_left
                      · simp only [Act.put,List.setIfInBounds_toArray,List.set_cons_zero,List.set_cons_succ,i64_w,i32_w]; rfl
                      refine done_ (done_of HT_.out (by kernel_rfl)) ?_; try go_wp2
                      go_roundg k2
                      case measure => have := HJ11.out; have := HK2.out; omega
                      case rel => exact ⟨(wrap64 (x167_2 + 1)),⟨⟨by rw [JX167.out]; have := J0167.out; omega,by rw [JX167.out,next_nat J0167.out]; exact JT167.out⟩⟩,H',⟨by have := HJ11.out; have := HK2.out; omega⟩,⟨zbw⟩⟩
                    · rw [if_neg c48] at H; exact absurd H (by simp)
                   · rw [if_neg c47] at H; exact absurd H (by simp)
                  ·
                   rw [if_neg c45] at H; have c45b0 : decide (0 < x167_2) = false := decide_eq_false c45; clear c45; have H' := Aside0.mk H; clear H; try go_wp2_with (first | ((with_reducible refine gate_callee (f := 8) rfl ?_); refine goesL_ (some 178) rfl rfl Tryz.func8 (by kernel_rfl) rfl #[.string t102,.string (t109.extract (x167_2 : Int).toNat ((wrap64 (x167_2 + 1)) : Int).toNat)] rfl zrr ?_; (with_reducible refine (impl_NextKeys.calls k2 t102 (t109.extract (x167_2 : Int).toNat ((wrap64 (x167_2 + 1)) : Int).toNat) t117 true _ zhm A33.out).mono ?_); rintro e w56 ⟨rfl,hb⟩; have j0_ := Aside0.mk ((hb.block g167 (blk_lt JT167.out)).trans JT167.out); clear JT167; have JT167 := j0_; clear j0_; refine ⟨_,rfl,?_⟩; have n0_ := Aside0.mk (below_step zbw hb); clear HB; have HB := n0_; clear n0_; (try clear hb); (try clear hb2); (try clear hk); (try clear hi)))
                   have n0_ := Aside0.mk (below_drew1 HB.out); clear HB; have HB := n0_; clear n0_; have p36 : 0 ≤ (0 : Int) := (by omega); have q36 : 0 < t103.size := (by have : (0 : Int) < (t103.size : Int) := zdd; omega); have hx36 : ∀ h : 0 < t103.size,((t103[0]'h).toNat : Int) = bt t103 0 := bt_at t103 0; clear p36; have qi36 : (0 < (t103.size : Int)) = True := eq_true (zdd); replace q36 := eq_true q36; refine start_ (n := 31) (S := fun w' => True) (ds := []) #[false,false,false,false,false,false,false,false,false,false,false,false,false,false,false,false,false,false,false,false,false,false,false,false,false,false,false,false,false,false,false] (by kernel_rfl) rfl rfl trivial (fun hHeld => ?_); refine with_tabW laws_FnWalksGo.tab17 laws_FnWalksGo.bits17 (fun HT_ HW_ => ?_)
                   have j0_ : Aside0 (w56.drew.heap[g167]? = some (.stringIter t109 (x167_2.toNat + 1))) := ⟨JT167.out⟩; clear JT167; have JT167 := j0_; clear j0_; generalize w56.drew = w57 at HB hHeld JT167 ⊢; refine pure_ (i := 0) (N := some 181) (v := ?_) (a' := ?_) #[true,false,false,false,false,false,false,false,false,false,false,false,false,false,false,false,false,false,false,false,false,false,false,false,false,false,false,false,false,false,false] rfl rfl (any_of HT_.out (by kernel_rfl)) (fun _ _ _ h => h) (Or.inl ⟨by rfl,?_⟩) ?_ ?_; rotate_left
                   · intro w'; go_simp; with_reducible rfl
                   rotate_left
                   · simp only [Act.put,List.setIfInBounds_toArray,List.set_cons_zero,List.set_cons_succ,i64_w,i32_w]; rfl
                   refine pure_ (i := 1) (N := some 182) (v := ?_) (a' := ?_) #[true,true,false,false,false,false,false,false,false,false,false,false,false,false,false,false,false,false,false,false,false,false,false,false,false,false,false,false,false,false,false] rfl rfl (any_of HT_.out (by kernel_rfl)) (fun _ _ _ h => h) (Or.inl ⟨by rfl,?_⟩) ?_ ?_; rotate_left
                   · intro w'; go_simp; with_reducible rfl
                   rotate_left
                   · simp only [Act.put,List.setIfInBounds_toArray,List.set_cons_zero,List.set_cons_succ,i64_w,i32_w]; rfl
                   refine pure_ (i := 2) (N := some 183) (v := ?_) (a' := ?_) #[true,true,true,false,false,false,false,false,false,false,false,false,false,false,false,false,false,false,false,false,false,false,false,false,false,false,false,false,false,false,false] rfl rfl (any_of HT_.out (by kernel_rfl)) (fun _ _ _ h => h) (Or.inl ⟨by rfl,?_⟩) ?_ ?_; rotate_left
                   · intro w'; go_simp; with_reducible rfl
                   rotate_left
                   · simp only [Act.put,List.setIfInBounds_toArray,List.set_cons_zero,List.set_cons_succ,i64_w,i32_w]; rfl
                   refine pure_ (i := 3) (N := some 184) (v := ?_) (a' := ?_) #[true,true,true,true,false,false,false,false,false,false,false,false,false,false,false,false,false,false,false,false,false,false,false,false,false,false,false,false,false,false,false] rfl rfl (any_of HT_.out (by kernel_rfl)) (fun _ _ _ h => h) (Or.inl ⟨by rfl,?_⟩) ?_ ?_; rotate_left
                   · intro w'; go_simp; with_reducible rfl
                   rotate_left
                   · simp only [Act.put,List.setIfInBounds_toArray,List.set_cons_zero,List.set_cons_succ,i64_w,i32_w]; rfl
                   refine pure_ (i := 4) (N := some 185) (v := ?_) (a' := ?_) #[true,true,true,true,true,false,false,false,false,false,false,false,false,false,false,false,false,false,false,false,false,false,false,false,false,false,false,false,false,false,false] rfl rfl (any_of HT_.out (by kernel_rfl)) (fun _ _ _ h => h) (Or.inl ⟨by rfl,?_⟩) ?_ ?_; rotate_left
                   · intro w'; go_simp; with_reducible rfl
                   rotate_left
                   · simp only [Act.put,List.setIfInBounds_toArray,List.set_cons_zero,List.set_cons_succ,i64_w,i32_w]; rfl
                   refine take_ (i := 5) (N := some 186) (v := ?_) (a' := ?_) #[true,true,true,true,true,true,false,false,false,false,false,false,false,false,false,false,false,false,false,false,false,false,false,false,false,false,false,false,false,false,false] rfl rfl (take_ofW HT_.out HW_.out (by kernel_rfl)) (fun _ _ _ h => h) (Or.inl ⟨by rfl,?_⟩) hHeld ?_ ?_; rotate_left
                   · intro w' _; go_simp; with_reducible rfl
                   rotate_left
                   · simp only [Act.put,List.setIfInBounds_toArray,List.set_cons_zero,List.set_cons_succ,i64_w,i32_w]; rfl
                   refine one_ (i := 6) (N := some 187) #[true,true,true,true,true,true,true,false,false,false,false,false,false,false,false,false,false,false,false,false,false,false,false,false,false,false,false,false,false,false,false] rfl rfl (one_of HT_.out (by kernel_rfl)) (by decide) (fun K hK => ?_); refine goes_ Tryz.func12 (by kernel_rfl) rfl #[.string t117,.int .u8 (bt t103 0)] (by rfl) rfl rfl zrr ?_; with_reducible refine (laws_fSign.calls k2 t117 (bt t103 0) true _ A37.out).mono ?_
                   rintro e w' ⟨rfl,⟨nd,rfl⟩⟩; refine ⟨_,rfl,?_⟩; have p40 : 0 ≤ (x167_2 : Int) := zdd; have q40 : x167_2 < (t109.size : Int) := zdd; have hx40 := bt_at t109 x167_2; replace p40 := eq_true p40; replace q40 := eq_true q40; have p41 : 0 ≤ (0 : Int) := (by omega); have q41 : 0 < t103.size := (by have : (0 : Int) < (t103.size : Int) := zdd; omega); have hx41 : ∀ h : 0 < t103.size,((t103[0]'h).toNat : Int) = bt t103 0 := bt_at t103 0; clear p41; have qi41 : (0 < (t103.size : Int)) = True := eq_true (zdd); replace q41 := eq_true q41; refine hK.out _ _ trivial (fun hHeld => ?_); clear hK K; refine norm_ (a' := ?_) ?_ ?_; rotate_left
                   ·
                    show Act.put _ (some 187) _ = _
                    simp only [Act.put,List.setIfInBounds_toArray,List.set_cons_zero,List.set_cons_succ,i64_w,i32_w]; rfl
                   refine pure_ (i := 7) (N := some 188) (v := ?_) (a' := ?_) #[true,true,true,true,true,true,true,true,false,false,false,false,false,false,false,false,false,false,false,false,false,false,false,false,false,false,false,false,false,false,false] rfl rfl (any_of HT_.out (by kernel_rfl)) (fun _ _ _ h => h) (Or.inl ⟨by rfl,?_⟩) ?_ ?_; rotate_left
                   · intro w'; go_simp; with_reducible rfl
                   rotate_left
                   · simp only [Act.put,List.setIfInBounds_toArray,List.set_cons_zero,List.set_cons_succ,i64_w,i32_w]; rfl
                   refine pure_ (i := 8) (N := some 189) (v := ?_) (a' := ?_) #[true,true,true,true,true,true,true,true,true,false,false,false,false,false,false,false,false,false,false,false,false,false,false,false,false,false,false,false,false,false,false] rfl rfl (any_of HT_.out (by kernel_rfl)) (fun _ _ _ h => h) (Or.inl ⟨by rfl,?_⟩) ?_ ?_; rotate_left
                   · intro w'; go_simp; with_reducible rfl
                   rotate_left
                   · simp only [Act.put,List.setIfInBounds_toArray,List.set_cons_zero,List.set_cons_succ,i64_w,i32_w]; rfl
                   refine pure_ (i := 9) (N := some 190) (v := ?_) (a' := ?_) #[true,true,true,true,true,true,true,true,true,true,false,false,false,false,false,false,false,false,false,false,false,false,false,false,false,false,false,false,false,false,false] rfl rfl (any_of HT_.out (by kernel_rfl)) (fun _ _ _ h => h) (Or.inl ⟨by rfl,?_⟩) ?_ ?_; rotate_left
                   · intro w'; go_simp; with_reducible rfl
                   rotate_left
                   · simp only [Act.put,List.setIfInBounds_toArray,List.set_cons_zero,List.set_cons_succ,i64_w,i32_w]; rfl
                   refine pure_ (i := 10) (N := some 191) (v := ?_) (a' := ?_) #[true,true,true,true,true,true,true,true,true,true,true,false,false,false,false,false,false,false,false,false,false,false,false,false,false,false,false,false,false,false,false] rfl rfl (any_of HT_.out (by kernel_rfl)) (fun _ _ _ h => h) (Or.inl ⟨by rfl,?_⟩) ?_ ?_; rotate_left
                   · intro w'; go_simp; with_reducible rfl
                   rotate_left
                   · simp only [Act.put,List.setIfInBounds_toArray,List.set_cons_zero,List.set_cons_succ,i64_w,i32_w]; rfl
                   refine pure_ (i := 11) (N := some 192) (v := ?_) (a' := ?_) #[true,true,true,true,true,true,true,true,true,true,true,true,false,false,false,false,false,false,false,false,false,false,false,false,false,false,false,false,false,false,false] rfl rfl (any_of HT_.out (by kernel_rfl)) (fun _ _ _ h => h) (Or.inl ⟨by rfl,?_⟩) ?_ ?_; rotate_left
                   · intro w'; go_simp; with_reducible rfl
                   rotate_left
                   · simp only [Act.put,List.setIfInBounds_toArray,List.set_cons_zero,List.set_cons_succ,i64_w,i32_w]; rfl
                   refine pure_ (i := 13) (N := some 194) (v := ?_) (a' := ?_) #[true,true,true,true,true,true,true,true,true,true,true,true,false,true,false,false,false,false,false,false,false,false,false,false,false,false,false,false,false,false,false] rfl rfl (any_of HT_.out (by kernel_rfl)) (fun _ _ _ h => h) (Or.inl ⟨by rfl,?_⟩) ?_ ?_; rotate_left
                   · intro w'; go_simp; with_reducible rfl
                   rotate_left
                   · simp only [Act.put,List.setIfInBounds_toArray,List.set_cons_zero,List.set_cons_succ,i64_w,i32_w]; rfl
                   refine take_ (i := 12) (N := some 193) (v := ?_) (a' := ?_) #[true,true,true,true,true,true,true,true,true,true,true,true,true,true,false,false,false,false,false,false,false,false,false,false,false,false,false,false,false,false,false] rfl rfl (take_ofW HT_.out HW_.out (by kernel_rfl)) (fun _ _ _ h => h) (Or.inl ⟨by rfl,?_⟩) hHeld ?_ ?_; rotate_left
                   · intro w' _; go_simp; with_reducible rfl
                   rotate_left
                   · simp only [Act.put,List.setIfInBounds_toArray,List.set_cons_zero,List.set_cons_succ,i64_w,i32_w]; rfl
                   refine take_ (i := 14) (N := some 195) (v := ?_) (a' := ?_) #[true,true,true,true,true,true,true,true,true,true,true,true,true,true,true,false,false,false,false,false,false,false,false,false,false,false,false,false,false,false,false] rfl rfl (take_ofW HT_.out HW_.out (by kernel_rfl)) (fun _ _ _ h => h) (Or.inl ⟨by rfl,?_⟩) hHeld ?_ ?_; rotate_left
                   · intro w' _; go_simp; with_reducible rfl
                   rotate_left
                   · simp only [Act.put,List.setIfInBounds_toArray,List.set_cons_zero,List.set_cons_succ,i64_w,i32_w]; rfl
                   refine pure_ (i := 15) (N := some 196) (v := ?_) (a' := ?_) #[true,true,true,true,true,true,true,true,true,true,true,true,true,true,true,true,false,false,false,false,false,false,false,false,false,false,false,false,false,false,false] rfl rfl (any_of HT_.out (by kernel_rfl)) (fun _ _ _ h => h) (Or.inl ⟨by rfl,?_⟩) ?_ ?_; rotate_left
                   · intro w'; go_simp; with_reducible rfl
                   rotate_left
                   · simp only [Act.put,List.setIfInBounds_toArray,List.set_cons_zero,List.set_cons_succ,i64_w,i32_w]; rfl
                   refine pure_ (i := 16) (N := some 197) (v := ?_) (a' := ?_) #[true,true,true,true,true,true,true,true,true,true,true,true,true,true,true,true,true,false,false,false,false,false,false,false,false,false,false,false,false,false,false] rfl rfl (any_of HT_.out (by kernel_rfl)) (fun _ _ _ h => h) (Or.inl ⟨by rfl,?_⟩) ?_ ?_; rotate_left
                   · intro w'; go_simp; with_reducible rfl
                   rotate_left
                   · simp only [Act.put,List.setIfInBounds_toArray,List.set_cons_zero,List.set_cons_succ,i64_w,i32_w]; rfl
                   refine pure_ (i := 17) (N := some 198) (v := ?_) (a' := ?_) #[true,true,true,true,true,true,true,true,true,true,true,true,true,true,true,true,true,true,false,false,false,false,false,false,false,false,false,false,false,false,false] rfl rfl (any_of HT_.out (by kernel_rfl)) (fun _ _ _ h => h) (Or.inl ⟨by rfl,?_⟩) ?_ ?_; rotate_left
                   · intro w'; go_simp; with_reducible rfl
                   rotate_left
                   · simp only [Act.put,List.setIfInBounds_toArray,List.set_cons_zero,List.set_cons_succ,i64_w,i32_w]; rfl
                   refine pure_ (i := 18) (N := some 199) (v := ?_) (a' := ?_) #[true,true,true,true,true,true,true,true,true,true,true,true,true,true,true,true,true,true,true,false,false,false,false,false,false,false,false,false,false,false,false] rfl rfl (any_of HT_.out (by kernel_rfl)) (fun _ _ _ h => h) (Or.inl ⟨by rfl,?_⟩) ?_ ?_; rotate_left
                   · intro w'; go_simp; with_reducible rfl
                   rotate_left
                   · simp only [Act.put,List.setIfInBounds_toArray,List.set_cons_zero,List.set_cons_succ,i64_w,i32_w]; rfl
                   refine pure_ (i := 19) (N := some 200) (v := ?_) (a' := ?_) #[true,true,true,true,true,true,true,true,true,true,true,true,true,true,true,true,true,true,true,true,false,false,false,false,false,false,false,false,false,false,false] rfl rfl (any_of HT_.out (by kernel_rfl)) (fun _ _ _ h => h) (Or.inl ⟨by rfl,?_⟩) ?_ ?_; rotate_left
                   · intro w'; go_simp; with_reducible rfl
                   rotate_left
                   · simp only [Act.put,List.setIfInBounds_toArray,List.set_cons_zero,List.set_cons_succ,i64_w,i32_w]; rfl
                   refine pure_ (i := 20) (N := some 201) (v := ?_) (a' := ?_) #[true,true,true,true,true,true,true,true,true,true,true,true,true,true,true,true,true,true,true,true,true,false,false,false,false,false,false,false,false,false,false] rfl rfl (any_of HT_.out (by kernel_rfl)) (fun _ _ _ h => h) (Or.inl ⟨by rfl,?_⟩) ?_ ?_; rotate_left
                   · intro w'; go_simp; with_reducible rfl
                   rotate_left
                   · simp only [Act.put,List.setIfInBounds_toArray,List.set_cons_zero,List.set_cons_succ,i64_w,i32_w]; rfl
                   refine pure_ (i := 21) (N := some 202) (v := undef) (a' := ?_) #[true,true,true,true,true,true,true,true,true,true,true,true,true,true,true,true,true,true,true,true,true,true,false,false,false,false,false,false,false,false,false] rfl rfl (any_of HT_.out (by kernel_rfl)) (fun _ _ _ h => h) (Or.inr ⟨by rfl,rfl⟩) ?_ ?_; rotate_left
                   · simp only [Act.put,List.setIfInBounds_toArray,List.set_cons_zero,List.set_cons_succ,i64_w,i32_w]; rfl
                   refine pure_ (i := 22) (N := some 203) (v := undef) (a' := ?_) #[true,true,true,true,true,true,true,true,true,true,true,true,true,true,true,true,true,true,true,true,true,true,true,false,false,false,false,false,false,false,false] rfl rfl (any_of HT_.out (by kernel_rfl)) (fun _ _ _ h => h) (Or.inr ⟨by rfl,rfl⟩) ?_ ?_; rotate_left
                   · simp only [Act.put,List.setIfInBounds_toArray,List.set_cons_zero,List.set_cons_succ,i64_w,i32_w]; rfl
                   refine pure_ (i := 23) (N := some 204) (v := undef) (a' := ?_) #[true,true,true,true,true,true,true,true,true,true,true,true,true,true,true,true,true,true,true,true,true,true,true,true,false,false,false,false,false,false,false] rfl rfl (any_of HT_.out (by kernel_rfl)) (fun _ _ _ h => h) (Or.inr ⟨by rfl,rfl⟩) ?_ ?_; rotate_left
                   · simp only [Act.put,List.setIfInBounds_toArray,List.set_cons_zero,List.set_cons_succ,i64_w,i32_w]; rfl
                   refine pure_ (i := 24) (N := some 205) (v := undef) (a' := ?_) #[true,true,true,true,true,true,true,true,true,true,true,true,true,true,true,true,true,true,true,true,true,true,true,true,true,false,false,false,false,false,false] rfl rfl (any_of HT_.out (by kernel_rfl)) (fun _ _ _ h => h) (Or.inr ⟨by rfl,rfl⟩) ?_ ?_; rotate_left
                   · simp only [Act.put,List.setIfInBounds_toArray,List.set_cons_zero,List.set_cons_succ,i64_w,i32_w]; rfl
                   refine pure_ (i := 25) (N := some 206) (v := undef) (a' := ?_) #[true,true,true,true,true,true,true,true,true,true,true,true,true,true,true,true,true,true,true,true,true,true,true,true,true,true,false,false,false,false,false] rfl rfl (any_of HT_.out (by kernel_rfl)) (fun _ _ _ h => h) (Or.inr ⟨by rfl,rfl⟩) ?_ ?_; rotate_left
                   · simp only [Act.put,List.setIfInBounds_toArray,List.set_cons_zero,List.set_cons_succ,i64_w,i32_w]; rfl
                   refine pure_ (i := 26) (N := some 207) (v := undef) (a' := ?_) #[true,true,true,true,true,true,true,true,true,true,true,true,true,true,true,true,true,true,true,true,true,true,true,true,true,true,true,false,false,false,false] rfl rfl (any_of HT_.out (by kernel_rfl)) (fun _ _ _ h => h) (Or.inr ⟨by rfl,rfl⟩) ?_ ?_; rotate_left
                   · simp only [Act.put,List.setIfInBounds_toArray,List.set_cons_zero,List.set_cons_succ,i64_w,i32_w]; rfl
                   refine pure_ (i := 27) (N := some 208) (v := undef) (a' := ?_) #[true,true,true,true,true,true,true,true,true,true,true,true,true,true,true,true,true,true,true,true,true,true,true,true,true,true,true,true,false,false,false] rfl rfl (any_of HT_.out (by kernel_rfl)) (fun _ _ _ h => h) (Or.inr ⟨by rfl,rfl⟩) ?_ ?_; rotate_left
                   · simp only [Act.put,List.setIfInBounds_toArray,List.set_cons_zero,List.set_cons_succ,i64_w,i32_w]; rfl
                   refine pure_ (i := 28) (N := some 209) (v := undef) (a' := ?_) #[true,true,true,true,true,true,true,true,true,true,true,true,true,true,true,true,true,true,true,true,true,true,true,true,true,true,true,true,true,false,false] rfl rfl (any_of HT_.out (by kernel_rfl)) (fun _ _ _ h => h) (Or.inr ⟨by rfl,rfl⟩) ?_ ?_; rotate_left
                   · simp only [Act.put,List.setIfInBounds_toArray,List.set_cons_zero,List.set_cons_succ,i64_w,i32_w]; rfl
                   refine pure_ (i := 29) (N := some 210) (v := ?_) (a' := ?_) #[true,true,true,true,true,true,true,true,true,true,true,true,true,true,true,true,true,true,true,true,true,true,true,true,true,true,true,true,true,true,false] rfl rfl (any_of HT_.out (by kernel_rfl)) (fun _ _ _ h => h) (Or.inl ⟨by rfl,?_⟩) ?_ ?_; rotate_left
                   · intro w'; go_simp; with_reducible rfl
                   rotate_left
                   · simp only [Act.put,List.setIfInBounds_toArray,List.set_cons_zero,List.set_cons_succ,i64_w,i32_w]; rfl
                   refine pure_ (i := 30) (N := some 211) (v := ?_) (a' := ?_) #[true,true,true,true,true,true,true,true,true,true,true,true,true,true,true,true,true,true,true,true,true,true,true,true,true,true,true,true,true,true,true] rfl rfl (any_of HT_.out (by kernel_rfl)) (fun _ _ _ h => h) (Or.inl ⟨by rfl,?_⟩) ?_ ?_; rotate_left
                   · intro w'; go_simp; with_reducible rfl
                   rotate_left
                   · simp only [Act.put,List.setIfInBounds_toArray,List.set_cons_zero,List.set_cons_succ,i64_w,i32_w]; rfl
                   refine done_ (done_of HT_.out (by kernel_rfl)) ?_; try go_wp2
                   go_roundg k2
                   case measure => have := HJ11.out; have := HK2.out; omega
                   case rel => exact ⟨(wrap64 (x167_2 + 1)),⟨⟨by rw [JX167.out]; have := J0167.out; omega,by rw [JX167.out,next_nat J0167.out]; exact JT167.out⟩⟩,H',⟨by have := HJ11.out; have := HK2.out; omega⟩,⟨zbw⟩⟩
                · rw [if_neg c39] at H; exact absurd H (by simp)
               ·
                replace c38 := Bool.eq_false_iff.mpr c38; subst c38; have H1 : (none : Option Bool) = some r := by rw [if_neg (show ¬ (false = true) by decide)] at H; exact H
                exact absurd H1 (by simp)
              · rw [if_neg c35] at H; exact absurd H (by simp)
             ·
              replace c34 := Bool.eq_false_iff.mpr c34; subst c34; have H1 : (none : Option Bool) = some r := by rw [if_neg (show ¬ (false = true) by decide)] at H; exact H
              exact absurd H1 (by simp)
            · rw [if_neg c32] at H; exact absurd H (by simp)
           · rw [if_neg c31] at H; exact absurd H (by simp)
          · rw [if_neg c30] at H; exact absurd H (by simp)
         ·
          rw [if_neg c29] at H; have hnx167 := fun ty => run_next_stopI (P := Tryz.prog) ty HIT167.out.1 HIT167.out.2 c29
          clear HIT167 HG167; have c29b0 : decide (x167_2 < (t109.size : Int)) = false := decide_eq_false c29; clear c29
          (first | rw [c29b0] | (simp only [i64_w,i32_w]; rw [c29b0]) | skip)
          have H' := Aside0.mk H; clear H; go_wp2
          go_meet
          case rel => exact ⟨_,H',⟨by have := HJ11.out; have := HK2.out; first | omega | exact Nat.le_refl _⟩,⟨zbw⟩⟩
      ·
       replace c28 := Bool.eq_false_iff.mpr c28; subst c28; have H1 : (laws_FnWalksGo.j2 kj11 l1 t102 t104 t105 t106 t109 t113 t114) = some r := by rw [if_neg (show ¬ (false = true) by decide)] at H; exact H
       clear H; have H := H1; clear H1; have H' := Aside0.mk H; clear H; go_wp2
       go_meet
       case rel => exact ⟨_,H',⟨by have := HJ11.out; first | omega | exact Nat.le_refl _⟩,⟨zbw⟩⟩
     case rest =>
      clear HC27; try clear c1
      try clear c2
      try clear p2
      try clear c3
      try clear p3
      try clear q3
      try clear hx3
      try clear qi3
      try clear p4
      try clear q4
      try clear hx4
      try clear qi4
      try clear p6
      try clear c8
      try clear c12
      try clear c28
      try clear c29
      try clear c29b0
      try clear c30
      try clear c31
      try clear c32
      try clear c34
      try clear c35
      try clear p36
      try clear q36
      try clear hx36
      try clear qi36
      try clear c38
      try clear c39
      try clear p40
      try clear q40
      try clear hx40
      try clear p41
      try clear q41
      try clear hx41
      try clear qi41
      try clear p36
      try clear p40
      try clear p41
      try clear q36
      try clear q40
      try clear q41
      obtain ⟨kq,HA,HJ26,HB⟩ := hcut
      cases kq with
      | zero => exact absurd HA.out (by simp [laws_FnWalksGo.j2])
      | succ kj26 =>
       have H := HA.out; clear HA; simp only [laws_FnWalksGo.j2] at H; have HC62 := Aside0.mk H; clear H
       go_upto_region 19 with (fail)
       go_cut [216] from 579 (fun v216 wc => ∃ (kq : Nat) (x216_61 : Bool),v216 = .bool x216_61 ∧ Aside0 (laws_FnWalksGo.j3 kq l1 t102 t104 t105 t109 t113 t114 x216_61 = some r) ∧ Aside0 (kq ≤ kj26) ∧ Aside0 (Below w.heap.size w wc))
       case first =>
        (try dsimp only [List.append])
        have H := HC62.out; clear HC62
        by_cases c63 : t106 = true
        ·
         subst c63; have H1 : (laws_FnWalksGo.j3 kj26 l1 t102 t104 t105 t109 t113 t114 (decide (t104 > 1))) = some r := by rw [if_pos rfl] at H; exact H
         clear H; have H := H1; clear H1; have H' := Aside0.mk H; clear H; go_wp2
         go_meet
         case rel => exact ⟨_,(decide (t104 > 1)),zrs,H',⟨by have := HJ11.out; have := HJ26.out; first | omega | exact Nat.le_refl _⟩,⟨zbw⟩⟩
        ·
         replace c63 := Bool.eq_false_iff.mpr c63; subst c63; have H1 : (laws_FnWalksGo.j3 kj26 l1 t102 t104 t105 t109 t113 t114 false) = some r := by rw [if_neg (show ¬ (false = true) by decide)] at H; exact H
         clear H; have H := H1; clear H1; have H' := Aside0.mk H; clear H; go_wp2
         go_meet
         case rel => exact ⟨_,(false),zrs,H',⟨by have := HJ11.out; have := HJ26.out; first | omega | exact Nat.le_refl _⟩,⟨zbw⟩⟩
       case rest =>
        clear HC62; try clear c1
        try clear c2
        try clear p2
        try clear c3
        try clear p3
        try clear q3
        try clear hx3
        try clear qi3
        try clear p4
        try clear q4
        try clear hx4
        try clear qi4
        try clear c6
        try clear p6
        try clear c8
        try clear c12
        try clear c28
        try clear c29
        try clear c29b0
        try clear c30
        try clear c31
        try clear c32
        try clear c34
        try clear c35
        try clear p36
        try clear q36
        try clear hx36
        try clear qi36
        try clear c38
        try clear c39
        try clear p40
        try clear q40
        try clear hx40
        try clear p41
        try clear q41
        try clear hx41
        try clear qi41
        try clear c63
        try clear p2
        try clear p3
        try clear p36
        try clear p4
        try clear p40
        try clear p41
        try clear p6
        try clear q3
        try clear q36
        try clear q4
        try clear q40
        try clear q41
        obtain ⟨kq,x216_61,rfl,HA,HJ61,HB⟩ := hcut
        cases kq with
        | zero => exact absurd HA.out (by simp [laws_FnWalksGo.j3])
        | succ kj61 =>
         have H := HA.out; clear HA; simp only [laws_FnWalksGo.j3] at H; have HC64 := Aside0.mk H; clear H
         go_upto_if 216 with (fail)
         go_cut [] from 579 (fun wc => ∃ (kq : Nat),Aside0 (laws_FnWalksGo.j5 kq l1 t102 t104 t113 t114 = some r) ∧ Aside0 (kq ≤ kj61) ∧ Aside0 (Below w.heap.size w wc))
         case first =>
          (try dsimp only [List.append])
          have H := HC64.out; clear HC64
          by_cases c65 : x216_61 = true
          ·
           subst c65; have H1 : (laws_FnWalksGo.l1 kj61 l1 t102 t104 t105 t109 t113 t114 0 t109 0) = some r := by rw [if_pos rfl] at H; exact H
           clear H; have H := H1; clear H1; have H' := Aside0.mk H; clear H; go_wp2
           obtain ⟨g218,wi_,hg_,hwi_,it_,ib_,hq_⟩ := iter_split (s := t109) HB.out HB.out.size; rw [← hg_,← hwi_]; have IT218 := Aside0.mk it_; have HG218 := Aside0.mk hq_; clear HB it_ hq_ hg_ hwi_; have HB := Aside0.mk ib_; clear ib_
           go_loopg [23] kj61 (fun kq v23 w' => ∃ (x23_4 : Int) (x218_4 : Int),v23 = .int .i64 x23_4 ∧ Aside0 (0 ≤ x218_4 ∧ w'.heap[g218]? = some (.stringIter t109 x218_4.toNat)) ∧ Aside0 (laws_FnWalksGo.l1 kq l1 t102 t104 t105 t109 t113 t114 x23_4 t109 x218_4 = some r) ∧ Aside0 (kq ≤ kj61) ∧ Aside0 (Below w.heap.size w w'))
           case atStart => exact ⟨(0),(0),zrs,⟨⟨by decide,IT218.out⟩⟩,H',⟨Nat.le_refl _⟩,⟨zbw⟩⟩
           case round =>
            clear H' IT218; try clear c1
            try clear c2
            try clear p2
            try clear c3
            try clear p3
            try clear q3
            try clear hx3
            try clear qi3
            try clear p4
            try clear q4
            try clear hx4
            try clear qi4
            try clear c6
            try clear p6
            try clear c8
            try clear c12
            try clear c28
            try clear c29
            try clear c29b0
            try clear c30
            try clear c31
            try clear c32
            try clear c34
            try clear c35
            try clear p36
            try clear q36
            try clear hx36
            try clear qi36
            try clear c38
            try clear c39
            try clear p40
            try clear q40
            try clear hx40
            try clear p41
            try clear q41
            try clear hx41
            try clear qi41
            try clear c63
            try clear p64
            try clear c65
            try clear p2
            try clear p3
            try clear p36
            try clear p4
            try clear p40
            try clear p41
            try clear p6
            try clear q3
            try clear q36
            try clear q4
            try clear q40
            try clear q41
            obtain ⟨x23_4,x218_4,rfl,HIT218,HA,HK4,HB⟩ := hrel
            cases gk with
            | zero => exact absurd HA.out (by simp [laws_FnWalksGo.l1])
            | succ k4 =>
             have H := HA.out; clear HA; simp only [laws_FnWalksGo.l1] at H
             by_cases c66 : x218_4 < (t109.size : Int)
             ·
              rw [if_pos c66] at H
              have hasc_ : (bt t109 x218_4) < 128 ∧ t109.size ≤ 1048576 := by
               by_cases c : (bt t109 x218_4) < 128 ∧ t109.size ≤ 1048576
               · exact c
               · rw [if_neg c] at H; cases H
              rw [if_pos hasc_] at H; have hnx218 := fun ty => run_next_atI (P := Tryz.prog) ty HIT218.out.1 HIT218.out.2 c66 hasc_.1
              have JT218 := Aside0.mk (iterAt_heap (s := t109) (pos := x218_4.toNat + 1) HIT218.out.2); have jb_ := Aside0.mk (iterAt_below (s := t109) (pos := x218_4.toNat + 1) HB.out HG218.out); have JX218 := Aside0.mk (show wrap64 (x218_4 + 1) = x218_4 + 1 from step_ok HIT218.out.1 c66 hasc_.2); have J0218 := Aside0.mk HIT218.out.1; clear HB HIT218 hasc_; generalize iterAt _ g218 t109 (x218_4.toNat + 1) = wj at hnx218 JT218 jb_; have HB := jb_; clear jb_; have c66b0 : decide (x218_4 < (t109.size : Int)) = true := decide_eq_true c66; clear c66
              (first | rw [c66b0] | (simp only [i64_w,i32_w]; rw [c66b0]) | skip)
              by_cases c67 : 0 ≤ x218_4
              ·
               rw [if_pos c67] at H; have c67b0 := eq_true c67; have c67b1 : decide (0 ≤ x218_4) = true := decide_eq_true c67; clear c67
               by_cases c68 : x218_4 ≤ (wrap64 (x218_4 + 1))
               ·
                rw [if_pos c68] at H; have c68b0 := eq_true c68; have c68b1 : decide (x218_4 ≤ (wrap64 (x218_4 + 1))) = true := decide_eq_true c68
                by_cases c69 : (wrap64 (x218_4 + 1)) ≤ (t109.size : Int)
                ·
                 rw [if_pos c69] at H; have c69b0 := eq_true c69; have c69b1 : decide ((wrap64 (x218_4 + 1)) ≤ (t109.size : Int)) = true := decide_eq_true c69; replace H := Option.bind_eq_some_iff.mp H; obtain ⟨⟨t120,t121⟩,A700,H⟩ := H; replace H : (if t121 = true then (laws_FnWalksGo.l1 k4 l1 t102 t104 t105 t109 t113 t114 (wrap64 (x23_4 + t120)) t109 (wrap64 (x218_4 + 1))) else none) = some r := H; have A70 := Aside0.mk A700; clear A700
                 by_cases c71 : t121 = true
                 ·
                  subst c71; have H1 : (laws_FnWalksGo.l1 k4 l1 t102 t104 t105 t109 t113 t114 (wrap64 (x23_4 + t120)) t109 (wrap64 (x218_4 + 1))) = some r := by rw [if_pos rfl] at H; exact H
                  clear H; have H := H1; clear H1; have H' := Aside0.mk H; clear H; go_wp2_with (first | ((with_reducible refine gate_callee (f := 6) rfl ?_); refine goesL_ (some 231) rfl rfl Tryz.func6 (by kernel_rfl) rfl #[.string t102,.string (t109.extract (x218_4 : Int).toNat ((wrap64 (x218_4 + 1)) : Int).toNat),.int .i64 (wrap64 (t104 - 1))] rfl zrr ?_; (with_reducible refine (impl_CountNumbers.calls k4 t102 (t109.extract (x218_4 : Int).toNat ((wrap64 (x218_4 + 1)) : Int).toNat) (wrap64 (t104 - 1)) t120 true _ zhm A70.out).mono ?_); rintro e w72 ⟨rfl,hb⟩; have j0_ := Aside0.mk ((hb.block g218 (blk_lt JT218.out)).trans JT218.out); clear JT218; have JT218 := j0_; clear j0_; refine ⟨_,rfl,?_⟩; have n0_ := Aside0.mk (below_step zbw hb); clear HB; have HB := n0_; clear n0_; (try clear hb); (try clear hb2); (try clear hk); (try clear hi)))
                  go_roundg k4
                  case measure => have := HJ11.out; have := HJ26.out; have := HJ61.out; have := HK4.out; omega
                  case rel => exact ⟨(wrap64 (x23_4 + t120)),(wrap64 (x218_4 + 1)),zrs,⟨⟨by rw [JX218.out]; have := J0218.out; omega,by rw [JX218.out,next_nat J0218.out]; exact JT218.out⟩⟩,H',⟨by have := HJ11.out; have := HJ26.out; have := HJ61.out; have := HK4.out; omega⟩,⟨zbw⟩⟩
                 ·
                  replace c71 := Bool.eq_false_iff.mpr c71; subst c71; have H1 : (none : Option Bool) = some r := by rw [if_neg (show ¬ (false = true) by decide)] at H; exact H
                  exact absurd H1 (by simp)
                · rw [if_neg c69] at H; exact absurd H (by simp)
               · rw [if_neg c68] at H; exact absurd H (by simp)
              · rw [if_neg c67] at H; exact absurd H (by simp)
             ·
              rw [if_neg c66] at H; have hnx218 := fun ty => run_next_stopI (P := Tryz.prog) ty HIT218.out.1 HIT218.out.2 c66
              clear HIT218 HG218; have c66b0 : decide (x218_4 < (t109.size : Int)) = false := decide_eq_false c66; clear c66
              (first | rw [c66b0] | (simp only [i64_w,i32_w]; rw [c66b0]) | skip)
              by_cases c74 : x23_4 = t105
              ·
               rw [if_pos c74] at H; have c74b0 : (x23_4 == t105) = true := beq_iff_eq.mpr c74; have c74b1 : (x23_4 != t105) = false := bne_eq_false_iff_eq.mpr c74; clear c74; have H' := Aside0.mk H; clear H; go_wp2
               go_meet
               case rel => exact ⟨_,H',⟨by have := HJ11.out; have := HJ26.out; have := HJ61.out; have := HK4.out; first | omega | exact Nat.le_refl _⟩,⟨zbw⟩⟩
              · rw [if_neg c74] at H; exact absurd H (by simp)
          ·
           replace c65 := Bool.eq_false_iff.mpr c65; subst c65; have H1 : (laws_FnWalksGo.j5 kj61 l1 t102 t104 t113 t114) = some r := by rw [if_neg (show ¬ (false = true) by decide)] at H; exact H
           clear H; have H := H1; clear H1; have H' := Aside0.mk H; clear H; go_wp2
           go_meet
           case rel => exact ⟨_,H',⟨by have := HJ11.out; have := HJ26.out; have := HJ61.out; first | omega | exact Nat.le_refl _⟩,⟨zbw⟩⟩
         case rest =>
          clear HC64; try clear c1
          try clear c2
          try clear p2
          try clear c3
          try clear p3
          try clear q3
          try clear hx3
          try clear qi3
          try clear p4
          try clear q4
          try clear hx4
          try clear qi4
          try clear c6
          try clear p6
          try clear c7
          try clear c8
          try clear c12
          try clear c28
          try clear c29
          try clear c29b0
          try clear c30
          try clear c31
          try clear c32
          try clear c34
          try clear c35
          try clear p36
          try clear q36
          try clear hx36
          try clear qi36
          try clear c38
          try clear c39
          try clear p40
          try clear q40
          try clear hx40
          try clear p41
          try clear q41
          try clear hx41
          try clear qi41
          try clear c63
          try clear p64
          try clear c65
          try clear c66
          try clear c66b0
          try clear c67
          try clear c67b0
          try clear c67b1
          try clear c68
          try clear c68b0
          try clear c68b1
          try clear c69
          try clear c69b0
          try clear c69b1
          try clear c71
          try clear c74
          try clear c74b0
          try clear c74b1
          try clear p2
          try clear p3
          try clear p36
          try clear p4
          try clear p40
          try clear p41
          try clear p6
          try clear p64
          try clear q3
          try clear q36
          try clear q4
          try clear q40
          try clear q41
          obtain ⟨kq,HA,HJ63,HB⟩ := hcut
          cases kq with
          | zero => exact absurd HA.out (by simp [laws_FnWalksGo.j5])
          | succ kj63 =>
           have H := HA.out; clear HA; simp only [laws_FnWalksGo.j5] at H; have HC75 := Aside0.mk H; clear H
           go_upto_if 242 with (fail)
           go_cut [] from 579 (fun wc => ∃ (kq : Nat),Aside0 (laws_FnWalksGo.j7 kq l1 = some r) ∧ Aside0 (kq ≤ kj63) ∧ Aside0 (Below w.heap.size w wc))
           case first =>
            (try dsimp only [List.append])
            have H := HC75.out; clear HC75
            by_cases c76 : t114 = true
            ·
             subst c76; have H1 : (laws_FnWalksGo.l2 kj63 l1 t102 t104 t113 0 0) = some r := by rw [if_pos rfl] at H; exact H
             clear H; have H := H1; clear H1; have H' := Aside0.mk H; clear H; go_wp2
             go_loopg [27,28] kj63 (fun kq v27 v28 w' => ∃ (x27_5 : Int) (x28_5 : Int),v27 = .int .i64 x27_5 ∧ v28 = .int .i64 x28_5 ∧ Aside0 (laws_FnWalksGo.l2 kq l1 t102 t104 t113 x27_5 x28_5 = some r) ∧ Aside0 (kq ≤ kj63) ∧ Aside0 (Below w.heap.size w w'))
             case atStart => exact ⟨(0),(0),zrs,zrs,H',⟨Nat.le_refl _⟩,⟨zbw⟩⟩
             case round =>
              clear H'; try clear c1
              try clear c2
              try clear p2
              try clear c3
              try clear p3
              try clear q3
              try clear hx3
              try clear qi3
              try clear p4
              try clear q4
              try clear hx4
              try clear qi4
              try clear c6
              try clear p6
              try clear c7
              try clear c8
              try clear c12
              try clear c28
              try clear c29
              try clear c29b0
              try clear c30
              try clear c31
              try clear c32
              try clear c34
              try clear c35
              try clear p36
              try clear q36
              try clear hx36
              try clear qi36
              try clear c38
              try clear c39
              try clear p40
              try clear q40
              try clear hx40
              try clear p41
              try clear q41
              try clear hx41
              try clear qi41
              try clear c63
              try clear p64
              try clear c65
              try clear c66
              try clear c66b0
              try clear c67
              try clear c67b0
              try clear c67b1
              try clear c68
              try clear c68b0
              try clear c68b1
              try clear c69
              try clear c69b0
              try clear c69b1
              try clear c71
              try clear c74
              try clear c74b0
              try clear c74b1
              try clear c76
              try clear p2
              try clear p3
              try clear p36
              try clear p4
              try clear p40
              try clear p41
              try clear p6
              try clear p64
              try clear q3
              try clear q36
              try clear q4
              try clear q40
              try clear q41
              obtain ⟨x27_5,x28_5,rfl,rfl,HA,HK5,HB⟩ := hrel
              cases gk with
              | zero => exact absurd HA.out (by simp [laws_FnWalksGo.l2])
              | succ k5 =>
               have H := HA.out; clear HA; simp only [laws_FnWalksGo.l2] at H
               by_cases c77 : x28_5 < 10
               ·
                rw [if_pos c77] at H; have c77b0 : decide (x28_5 < 10) = true := decide_eq_true c77; clear c77
                (first | rw [c77b0] | (simp only [i64_w,i32_w]; rw [c77b0]) | skip)
                by_cases c78 : 0 ≤ x28_5
                ·
                 rw [if_pos c78] at H; have c78b0 := eq_true c78; have c78b1 : decide (0 ≤ x28_5) = true := decide_eq_true c78; clear c78
                 by_cases c79 : x28_5 ≤ (wrap64 (x28_5 + 1))
                 ·
                  rw [if_pos c79] at H; have c79b0 := eq_true c79; have c79b1 : decide (x28_5 ≤ (wrap64 (x28_5 + 1))) = true := decide_eq_true c79
                  by_cases c80 : (wrap64 (x28_5 + 1)) ≤ 10
                  ·
                   rw [if_pos c80] at H; have c80b0 := eq_true c80; have c80b1 : decide ((wrap64 (x28_5 + 1)) ≤ 10) = true := decide_eq_true c80; replace H := Option.bind_eq_some_iff.mp H; obtain ⟨⟨t122,t123⟩,A810,H⟩ := H; replace H : (if t123 = true then (laws_FnWalksGo.l2 k5 l1 t102 t104 t113 (wrap64 (x27_5 + t122)) (wrap64 (x28_5 + 1))) else none) = some r := H; have A81 := Aside0.mk A810; clear A810
                   by_cases c82 : t123 = true
                   ·
                    subst c82; have H1 : (laws_FnWalksGo.l2 k5 l1 t102 t104 t113 (wrap64 (x27_5 + t122)) (wrap64 (x28_5 + 1))) = some r := by rw [if_pos rfl] at H; exact H
                    clear H; have H := H1; clear H1; have H' := Aside0.mk H; clear H; go_wp2_with (first | ((with_reducible refine gate_callee (f := 6) rfl ?_); refine goesL_ (some 254) rfl rfl Tryz.func6 (by kernel_rfl) rfl #[.string t102,.string ((⟨#[48,49,50,51,52,53,54,55,56,57]⟩ : ByteArray).extract (x28_5 : Int).toNat ((wrap64 (x28_5 + 1)) : Int).toNat),.int .i64 t104] rfl zrr ?_; (with_reducible refine (impl_CountNumbers.calls k5 t102 ((⟨#[48,49,50,51,52,53,54,55,56,57]⟩ : ByteArray).extract (x28_5 : Int).toNat ((wrap64 (x28_5 + 1)) : Int).toNat) t104 t122 true _ zhm A81.out).mono ?_); rintro e w83 ⟨rfl,hb⟩; refine ⟨_,rfl,?_⟩; have n0_ := Aside0.mk (below_step zbw hb); clear HB; have HB := n0_; clear n0_; (try clear hb); (try clear hb2); (try clear hk); (try clear hi)))
                    go_roundg k5
                    case measure => have := HJ11.out; have := HJ26.out; have := HJ61.out; have := HJ63.out; have := HK5.out; omega
                    case rel => exact ⟨(wrap64 (x27_5 + t122)),(wrap64 (x28_5 + 1)),zrs,zrs,H',⟨by have := HJ11.out; have := HJ26.out; have := HJ61.out; have := HJ63.out; have := HK5.out; omega⟩,⟨zbw⟩⟩
                   ·
                    replace c82 := Bool.eq_false_iff.mpr c82; subst c82; have H1 : (none : Option Bool) = some r := by rw [if_neg (show ¬ (false = true) by decide)] at H; exact H
                    exact absurd H1 (by simp)
                  · rw [if_neg c80] at H; exact absurd H (by simp)
                 · rw [if_neg c79] at H; exact absurd H (by simp)
                · rw [if_neg c78] at H; exact absurd H (by simp)
               ·
                rw [if_neg c77] at H; have c77b0 : decide (x28_5 < 10) = false := decide_eq_false c77; clear c77
                (first | rw [c77b0] | (simp only [i64_w,i32_w]; rw [c77b0]) | skip)
                replace H := Option.bind_eq_some_iff.mp H; obtain ⟨⟨t124,t125,t126⟩,A850,H⟩ := H; replace H : (if x27_5 = t113 then (if t104 ≤ 20 then (if t126 = true then (if (wrap64 (t125 * 10)) < t113 then none else (if (t124.size : Int) = 1 then (laws_FnWalksGo.j7 k5 l1) else none)) else none) else (laws_FnWalksGo.j7 k5 l1)) else none) = some r := H; have A85 := Aside0.mk A850; clear A850
                by_cases c86 : x27_5 = t113
                ·
                 rw [if_pos c86] at H; have c86b0 : (x27_5 == t113) = true := beq_iff_eq.mpr c86; have c86b1 : (x27_5 != t113) = false := bne_eq_false_iff_eq.mpr c86; clear c86
                 by_cases c87 : t104 ≤ 20
                 ·
                  rw [if_pos c87] at H; have c87b0 : decide (t104 ≤ 20) = true := decide_eq_true c87; clear c87
                  by_cases c88 : t126 = true
                  ·
                   subst c88; have H1 : (if (wrap64 (t125 * 10)) < t113 then none else (if (t124.size : Int) = 1 then (laws_FnWalksGo.j7 k5 l1) else none)) = some r := by rw [if_pos rfl] at H; exact H
                   clear H; have H := H1; clear H1
                   by_cases c89 : (wrap64 (t125 * 10)) < t113
                   · rw [if_pos c89] at H; exact absurd H (by simp)
                   ·
                    rw [if_neg c89] at H; have c89b0 : decide ((wrap64 (t125 * 10)) < t113) = false := decide_eq_false c89; clear c89
                    by_cases c91 : (t124.size : Int) = 1
                    ·
                     rw [if_pos c91] at H; have c91b0 : ((t124.size : Int) == 1) = true := beq_iff_eq.mpr c91; have c91b1 : ((t124.size : Int) != 1) = false := bne_eq_false_iff_eq.mpr c91; clear c91; have H' := Aside0.mk H; clear H; go_wp2_with (first | ((with_reducible refine gate_callee (f := 13) rfl ?_); refine goesL_ (some 265) rfl rfl Tryz.func13 (by kernel_rfl) rfl #[.string t102,.int .i64 t104] rfl zrr ?_; (with_reducible refine (impl_BusiestKey.calls k5 t102 t104 t124 t125 true _ zhm A85.out).mono ?_); rintro e w92 ⟨rfl,hb⟩; refine ⟨_,rfl,?_⟩; have n0_ := Aside0.mk (below_step zbw hb); clear HB; have HB := n0_; clear n0_; (try clear hb); (try clear hb2); (try clear hk); (try clear hi)))
                     go_meet
                     case rel => exact ⟨_,H',⟨by have := HJ11.out; have := HJ26.out; have := HJ61.out; have := HJ63.out; have := HK5.out; first | omega | exact Nat.le_refl _⟩,⟨zbw⟩⟩
                    · rw [if_neg c91] at H; exact absurd H (by simp)
                  ·
                   replace c88 := Bool.eq_false_iff.mpr c88; subst c88; have H1 : (none : Option Bool) = some r := by rw [if_neg (show ¬ (false = true) by decide)] at H; exact H
                   exact absurd H1 (by simp)
                 ·
                  rw [if_neg c87] at H; have c87b0 : decide (t104 ≤ 20) = false := decide_eq_false c87; clear c87; have H' := Aside0.mk H; clear H; go_wp2_with (first | ((with_reducible refine gate_callee (f := 13) rfl ?_); refine goesL_ (some 265) rfl rfl Tryz.func13 (by kernel_rfl) rfl #[.string t102,.int .i64 t104] rfl zrr ?_; (with_reducible refine (impl_BusiestKey.calls k5 t102 t104 t124 t125 t126 _ zhm A85.out).mono ?_); rintro e w95 ⟨rfl,hb⟩; refine ⟨_,rfl,?_⟩; have n0_ := Aside0.mk (below_step zbw hb); clear HB; have HB := n0_; clear n0_; (try clear hb); (try clear hb2); (try clear hk); (try clear hi)))
                  go_meet
                  case rel => exact ⟨_,H',⟨by have := HJ11.out; have := HJ26.out; have := HJ61.out; have := HJ63.out; have := HK5.out; first | omega | exact Nat.le_refl _⟩,⟨zbw⟩⟩
                · rw [if_neg c86] at H; exact absurd H (by simp)
            ·
             replace c76 := Bool.eq_false_iff.mpr c76; subst c76; have H1 : (laws_FnWalksGo.j7 kj63 l1) = some r := by rw [if_neg (show ¬ (false = true) by decide)] at H; exact H
             clear H; have H := H1; clear H1; have H' := Aside0.mk H; clear H; go_wp2
             go_meet
             case rel => exact ⟨_,H',⟨by have := HJ11.out; have := HJ26.out; have := HJ61.out; have := HJ63.out; first | omega | exact Nat.le_refl _⟩,⟨zbw⟩⟩
           case rest =>
            rename_i K_ hK_
            clear HC75; try clear c1
            try clear c2
            try clear p2
            try clear c3
            try clear p3
            try clear q3
            try clear hx3
            try clear qi3
            try clear p4
            try clear q4
            try clear hx4
            try clear qi4
            try clear c6
            try clear p6
            try clear c7
            try clear c8
            try clear c9
            try clear c12
            try clear c13
            try clear c28
            try clear c29
            try clear c29b0
            try clear c30
            try clear c31
            try clear c32
            try clear c34
            try clear c35
            try clear p36
            try clear q36
            try clear hx36
            try clear qi36
            try clear c38
            try clear c39
            try clear p40
            try clear q40
            try clear hx40
            try clear p41
            try clear q41
            try clear hx41
            try clear qi41
            try clear c63
            try clear p64
            try clear c65
            try clear c66
            try clear c66b0
            try clear c67
            try clear c67b0
            try clear c67b1
            try clear c68
            try clear c68b0
            try clear c68b1
            try clear c69
            try clear c69b0
            try clear c69b1
            try clear c71
            try clear c74
            try clear c74b0
            try clear c74b1
            try clear c76
            try clear c77
            try clear c77b0
            try clear c78
            try clear c78b0
            try clear c78b1
            try clear c79
            try clear c79b0
            try clear c79b1
            try clear c80
            try clear c80b0
            try clear c80b1
            try clear c82
            try clear c86
            try clear c86b0
            try clear c86b1
            try clear c87
            try clear c87b0
            try clear c88
            try clear c89
            try clear c89b0
            try clear c91
            try clear c91b0
            try clear c91b1
            try clear p2
            try clear p3
            try clear p36
            try clear p4
            try clear p40
            try clear p41
            try clear p6
            try clear p64
            try clear q3
            try clear q36
            try clear q4
            try clear q40
            try clear q41
            obtain ⟨kq,HA,HJ74,HB⟩ := hcut; exact hK_ _ _ (laws_FnWalksGo.tail_j7 HML HR1 HC1 HA HJ74 HB)
end Go.Proofs.YtffbfkfbeggdnaaGreatDoor.P
namespace Go.Proofs.YtffbfkfbeggdnaaGreatDoor
open Go.RowKit Go.Proofs.YtffbfkfbeggdnaaGreatDoor.P Go.Proofs.YtffbfkfbeggdnaaGreatDoorW.PrintWords Go.Proofs.YtffbfkfbeggdnaaGreatDoorW.PrintLast
/-- The pure statement of FnWalksGo. -/
def PureFnWalksGo : Prop := ∀ (l0 : List Int) (l1 : List Int), (l0.length ≤ 9223372036854775807 ∧ ∀ x ∈ l0, (Lit.int .u8 x).wf = true) → (l1.length ≤ 9223372036854775807 ∧ ∀ x ∈ l1, (Lit.int .u8 x).wf = true) →  ∃ k, laws_FnWalksGo.f k l0 l1 = some true
end Go.Proofs.YtffbfkfbeggdnaaGreatDoor
namespace Go.Proofs.YtffbfkfbeggdnaaGreatDoor
open Go.RowKit Go.Proofs.YtffbfkfbeggdnaaGreatDoorW.PrintWords
/-! Plain words for the pure statements: answers that stand from some number of rounds on. -/
theorem Ev.succ {α : Type} {g : Nat → Option α} {r : α} (h : Ev (fun k => g (k + 1)) r) : Ev g r := Ev.step (fun _ => rfl) h
theorem Ev.const {α : Type} {a : Option α} {r : α} (h : a = some r) : Ev (fun _ => a) r := ⟨0, fun _ _ => h⟩
theorem Ev.pos {α : Type} {c : Prop} [Decidable c] {g f : Nat → Option α} {r : α} (hc : c) (h : Ev g r) : Ev (fun k => if c then g k else f k) r := by simp only [if_pos hc]; exact h
theorem Ev.neg {α : Type} {c : Prop} [Decidable c] {g f : Nat → Option α} {r : α} (hc : ¬ c) (h : Ev f r) : Ev (fun k => if c then g k else f k) r := by simp only [if_neg hc]; exact h
theorem Ev.yes {α : Type} {c : Prop} [Decidable c] {g f : Nat → Option α} {r : α} (h : Ev g r) (hc : c := by first | omega | rfl | trivial | decide | simp | (simp; omega)) : Ev (fun k => if c then g k else f k) r := Ev.pos hc h
theorem Ev.no {α : Type} {c : Prop} [Decidable c] {g f : Nat → Option α} {r : α} (h : Ev f r) (hc : ¬ c := by first | omega | decide | simp | (simp; omega)) : Ev (fun k => if c then g k else f k) r := Ev.neg hc h
theorem Ev.bindc {α β : Type} {a : Option α} {x : α} {f : Nat → α → Option β} {r : β} (h : a = some x) (k : Ev (fun n => f n x) r) : Ev (fun n => a.bind (f n)) r := by subst h; exact k
theorem wrap_id {n : Int} (h1 : -9223372036854775808 ≤ n) (h2 : n ≤ 9223372036854775807) : wrap64 n = n := IntWalk.wrap64_in n ⟨h1, h2⟩
theorem wf_i64 {n : Int} (h : (Lit.int .i64 n).wf = true) : -9223372036854775808 ≤ n ∧ n ≤ 9223372036854775807 := by
  have e1 : IntKind.i64.min = -9223372036854775808 := rfl
  have e2 : IntKind.i64.max = 9223372036854775807 := rfl
  simp only [Lit.wf, e1, e2, Bool.and_eq_true, decide_eq_true_eq] at h
  exact h
theorem rd_nat (l : List Int) (j : Nat) (h : j < l.length) : rd l (j : Int) = l[j] := by unfold rd; simp [List.getD, h]
end Go.Proofs.YtffbfkfbeggdnaaGreatDoor
namespace Go.Proofs.YtffbfkfbeggdnaaGreatDoor
open Go.RowKit Go.Proofs.YtffbfkfbeggdnaaGreatDoorW.PrintWords
set_option linter.unusedSimpArgs false
set_option linter.unusedVariables false
/-! Strings as lists of bytes. -/
/-- A string's bytes. -/
def bl (s : ByteArray) : List UInt8 := s.data.toList
theorem bl_len (s : ByteArray) : s.size = (bl s).length := rfl
theorem bl_inj {s t : ByteArray} (h : bl s = bl t) : s = t := ByteArray.ext (Array.toList_inj.1 h)
theorem bl_toList (s : ByteArray) : s.toList = bl s := Go.ByteArray.toList_eq s
theorem bl_mk (a : Array UInt8) : bl ⟨a⟩ = a.toList := rfl
theorem mk_bl (s : ByteArray) : (⟨(bl s).toArray⟩ : ByteArray) = s := bl_inj (by simp [bl])
theorem bl_extract (s : ByteArray) (i j : Nat) : bl (s.extract i j) = ((bl s).drop i).take (j - i) := by simp [bl, ByteArray.data_extract]
theorem bl_append (s t : ByteArray) : bl (s ++ t) = bl s ++ bl t := by simp [bl, ByteArray.data_append]
theorem bl_nums (l : List Int) : bl (strOfNums l) = l.map fun n => UInt8.ofNat n.toNat := rfl
theorem bl_empty : bl (⟨#[]⟩ : ByteArray) = [] := rfl
theorem bt_nat (s : ByteArray) (i : Nat) (h : i < (bl s).length) : bt s (i : Int) = ((bl s)[i].toNat : Int) := by
  unfold bt
  have h' : ((i : Int)).toNat < s.size := by rw [Int.toNat_natCast]; exact h
  rw [dif_pos h']; rfl
theorem of_toNat (c : UInt8) : UInt8.ofNat ((c.toNat : Int)).toNat = c := by rw [Int.toNat_natCast]; simp
theorem bt_of (s : ByteArray) (i : Nat) (h : i < (bl s).length) : UInt8.ofNat (bt s (i : Int)).toNat = (bl s)[i] := by rw [bt_nat s i h]; exact of_toNat _
theorem byte_eq (c d : UInt8) : ((c.toNat : Int) = (d.toNat : Int)) ↔ c = d := by
  constructor
  · intro h; exact UInt8.toNat_inj.1 (by exact_mod_cast h)
  · intro h; rw [h]
theorem byte_lt (c d : UInt8) : ((c.toNat : Int) < (d.toNat : Int)) ↔ c < d := by rw [UInt8.lt_iff_toNat_lt]; omega
theorem byte_le (c d : UInt8) : ((c.toNat : Int) ≤ (d.toNat : Int)) ↔ c ≤ d := by rw [UInt8.le_iff_toNat_le]; omega
theorem dropWhile_nil {α : Type} (p : α → Bool) : ∀ l : List α, l.dropWhile p = [] ↔ l.all p = true
  | [] => by simp
  | x :: xs => by
    by_cases h : p x = true
    · simp [List.dropWhile_cons, h, dropWhile_nil p xs]
    · simp [List.dropWhile_cons, h]
theorem dropWhile_keeps {α : Type} (p : α → Bool) : ∀ l : List α, (l.dropWhile p).all p = l.all p
  | [] => rfl
  | x :: xs => by
    by_cases h : p x = true
    · simp only [List.dropWhile_cons, h, if_true, List.all_cons, Bool.true_and]; exact dropWhile_keeps p xs
    · simp [List.dropWhile_cons, h]
theorem trimS_nil (l cs : List UInt8) : Lib.trimS l cs = [] ↔ l.all (cs.contains ·) = true := by
  unfold Lib.trimS Lib.trimLeftS Lib.trimRightS
  rw [dropWhile_nil, List.all_reverse, dropWhile_keeps, List.all_reverse]
theorem indexByte_neg (l : List UInt8) (c : UInt8) : Lib.indexByte l c < 0 ↔ ¬ c ∈ l := by
  induction l with
  | nil => simp [Lib.indexByte]
  | cons b l ih =>
    have hge := Lib.indexByte_ge l c
    unfold Lib.indexByte
    by_cases h : b = c
    · subst h; simp
    · have h1 : (b == c) = false := by simpa using h
      rw [h1]
      have h2 : ¬ c = b := fun e => h e.symm
      simp only [Bool.false_eq_true, if_false, List.mem_cons, h2, false_or]
      by_cases e : Lib.indexByte l c = -1
      · simp only [e, beq_self_eq_true, if_true]
        have := ih.1 (by omega)
        simp [this]
      · have e' : (Lib.indexByte l c == -1) = false := by simpa using e
        rw [e']
        simp only [Bool.false_eq_true, if_false]
        have hp : ¬ Lib.indexByte l c < 0 := by omega
        have := mt ih.2 hp
        constructor
        · intro h3; omega
        · intro h3; exact absurd h3 this
/-- The letters. -/
def isLow (c : UInt8) : Bool := decide (97 ≤ c.toNat) && decide (c.toNat ≤ 122)
theorem u8_all (P : UInt8 → Prop) [DecidablePred P] (h : ∀ n, n < 256 → P (UInt8.ofNat n)) (c : UInt8) : P c := by
  have := h c.toNat c.toNat_lt
  rwa [show UInt8.ofNat c.toNat = c from by simp] at this
theorem low_contains (c : UInt8) : ([97, 98, 99, 100, 101, 102, 103, 104, 105, 106, 107, 108, 109, 110, 111, 112, 113, 114, 115, 116, 117, 118, 119, 120, 121, 122] : List UInt8).contains c = isLow c := by
  refine u8_all (fun c => _ = isLow c) ?_ c
  decide +kernel
theorem dig_contains (c : UInt8) : ([48, 49, 50, 51, 52, 53, 54, 55, 56, 57] : List UInt8).contains c = (decide (48 ≤ c.toNat) && decide (c.toNat ≤ 57)) := by
  refine u8_all (fun c => _ = (decide (48 ≤ c.toNat) && decide (c.toNat ≤ 57))) ?_ c
  decide +kernel
end Go.Proofs.YtffbfkfbeggdnaaGreatDoor
namespace Go.Proofs.YtffbfkfbeggdnaaGreatDoor
open Go.RowKit Go.Proofs.YtffbfkfbeggdnaaGreatDoor.P Go.Proofs.YtffbfkfbeggdnaaGreatDoorW.PrintWords
set_option linter.unusedSimpArgs false
set_option linter.unusedVariables false
theorem in_eq (n a b : Int) : impl_in.f n a b = some (decide (a ≤ n) && decide (n ≤ b)) := by
  unfold impl_in.f
  by_cases h : a ≤ n
  · rw [if_pos h]; simp [h]
  · rw [if_neg h]; simp [h]
theorem l1In_eq (n a b : Int) : spec_l1In.f n a b = some (decide (a ≤ n) && decide (n ≤ b)) := by
  unfold spec_l1In.f
  by_cases h : a ≤ n
  · rw [if_pos h]; simp [h]
  · rw [if_neg h]; simp [h]
theorem over_eq (s cs : ByteArray) (h1 : s.size ≤ 9223372036854775807) (h2 : cs.size < 4294967281) (h3 : (bl cs).all (fun b => decide (b.toNat < 128)) = true) : impl_over.f s cs = some ((bl s).all ((bl cs).contains ·)) := by
  unfold impl_over.f strings_Trim.f
  rw [if_pos ⟨h1, h2, h3⟩]
  simp only [Option.bind_some]
  congr 1
  rw [bl_toList, bl_mk, List.toList_toArray]
  have := trimS_nil (bl s) (bl cs)
  unfold bl at this ⊢
  rw [Bool.eq_iff_iff, beq_iff_eq]
  exact this
/-- Is it a digit's sign? -/
def isDig (c : UInt8) : Bool := decide (48 ≤ c.toNat) && decide (c.toNat ≤ 57)
theorem overDig_eq (s : ByteArray) (h1 : s.size ≤ 9223372036854775807) : impl_over.f s (⟨#[48, 49, 50, 51, 52, 53, 54, 55, 56, 57]⟩ : ByteArray) = some ((bl s).all isDig) := by
  rw [over_eq s _ h1 (by decide) (by decide)]
  congr 1
  congr 1
  funext c
  exact dig_contains c
/-- Digits, of a length. -/
def digsB (l : List UInt8) (a b : Nat) : Bool := decide (a ≤ l.length) && decide (l.length ≤ b) && l.all isDig
theorem isDigits_eq (s : ByteArray) (a b : Nat) (h1 : s.size ≤ 9223372036854775807) : impl_isDigits.f s a b = some (digsB (bl s) a b) := by
  unfold impl_isDigits.f digsB
  rw [in_eq]
  have e : (decide ((a : Int) ≤ (s.size : Int)) && decide ((s.size : Int) ≤ (b : Int))) = (decide (a ≤ (bl s).length) && decide ((bl s).length ≤ b)) := by
    rw [bl_len]; congr 1 <;> (rw [decide_eq_decide]; omega)
  rw [e]
  simp only [Option.bind_some]
  cases (decide (a ≤ (bl s).length) && decide ((bl s).length ≤ b)) with
  | false => rfl
  | true => rw [if_pos rfl, overDig_eq s h1]; rfl
theorem isDig_at {l : List UInt8} (h : l.all isDig = true) (i : Nat) (hi : i < l.length) : 48 ≤ l[i].toNat ∧ l[i].toNat ≤ 57 := by
  have := List.all_eq_true.1 h _ (List.getElem_mem hi)
  unfold isDig at this
  simpa only [Bool.and_eq_true, decide_eq_true_eq] using this
theorem wkDigits_l0 (s : ByteArray) (hs : s.size ≤ 9223372036854775806) : ∀ (d i : Nat), i + d = s.size → Ev (fun k => spec_wkDigits.l0 k s i) (((bl s).drop i).all isDig)
  | 0, i, hi => by
    apply Ev.succ
    simp only [spec_wkDigits.l0]
    refine Ev.neg (by omega) (Ev.const ?_)
    rw [List.drop_of_length_le (by rw [← bl_len]; omega)]; rfl
  | d + 1, i, hi => by
    have hlt : i < (bl s).length := by rw [← bl_len]; omega
    apply Ev.succ
    simp only [spec_wkDigits.l0]
    refine Ev.pos (by omega) (Ev.pos (by omega) ?_)
    rw [wrap_id (by omega) (by omega), bt_nat s i hlt, List.drop_eq_getElem_cons hlt, List.all_cons]
    by_cases c1 : ((bl s)[i].toNat : Int) < 48
    · refine Ev.pos c1 (Ev.const ?_)
      have : isDig (bl s)[i] = false := by unfold isDig; rw [Bool.and_eq_false_iff]; left; rw [decide_eq_false_iff_not]; omega
      rw [this]; rfl
    · refine Ev.neg c1 ?_
      by_cases c2 : ((bl s)[i].toNat : Int) > 57
      · refine Ev.pos c2 (Ev.const ?_)
        have : isDig (bl s)[i] = false := by unfold isDig; rw [Bool.and_eq_false_iff]; right; rw [decide_eq_false_iff_not]; omega
        rw [this]; rfl
      · refine Ev.neg c2 ?_
        have : isDig (bl s)[i] = true := by unfold isDig; rw [Bool.and_eq_true, decide_eq_true_eq, decide_eq_true_eq]; omega
        rw [this, Bool.true_and]
        exact_mod_cast wkDigits_l0 s hs d (i + 1) (by omega)
theorem wkDigits_ev (s : ByteArray) : Ev (fun k => spec_wkDigits.f k s) (digsB (bl s) 1 40) := by
  unfold spec_wkDigits.f digsB
  refine Ev.bindc (l1In_eq _ _ _) ?_
  have e : (decide ((1 : Int) ≤ (s.size : Int)) && decide ((s.size : Int) ≤ 40)) = (decide (1 ≤ (bl s).length) && decide ((bl s).length ≤ 40)) := by
    rw [bl_len]; congr 1 <;> (rw [decide_eq_decide]; omega)
  rw [e]
  cases h : (decide (1 ≤ (bl s).length) && decide ((bl s).length ≤ 40)) with
  | false => exact Ev.no (Ev.now _)
  | true =>
    have : s.size ≤ 40 := by simp only [Bool.and_eq_true, decide_eq_true_eq] at h; rw [bl_len]; omega
    refine Ev.yes ?_
    rw [Bool.true_and]
    exact wkDigits_l0 s (by omega) s.size 0 (by omega)
end Go.Proofs.YtffbfkfbeggdnaaGreatDoor
namespace Go.Proofs.YtffbfkfbeggdnaaGreatDoor
open Go.RowKit Go.Proofs.YtffbfkfbeggdnaaGreatDoorW.PrintWords
set_option linter.unusedSimpArgs false
set_option linter.unusedVariables false
/-- Is it a piece? -/
def pieceB (l : List UInt8) : Bool := decide (l = [110]) || decide (l = [107]) || decide (l = [114]) || decide (l = [98])
theorem pieceB_of {s : ByteArray} (h : pieceB (bl s) = true) : s = ⟨#[110]⟩ ∨ s = ⟨#[107]⟩ ∨ s = ⟨#[114]⟩ ∨ s = ⟨#[98]⟩ := by
  unfold pieceB at h
  simp only [Bool.or_eq_true, decide_eq_true_eq] at h
  rcases h with ((h | h) | h) | h
  · exact .inl (bl_inj h)
  · exact .inr (.inl (bl_inj h))
  · exact .inr (.inr (.inl (bl_inj h)))
  · exact .inr (.inr (.inr (bl_inj h)))
end Go.Proofs.YtffbfkfbeggdnaaGreatDoor
namespace Go.Proofs.YtffbfkfbeggdnaaGreatDoor
open Go.RowKit Go.Proofs.YtffbfkfbeggdnaaGreatDoor.P Go.Proofs.YtffbfkfbeggdnaaGreatDoorW.PrintWords
set_option linter.unusedSimpArgs false
set_option linter.unusedVariables false
theorem isPiece_eq (s : ByteArray) : impl_isPiece.f s = some (pieceB (bl s)) := by
  unfold impl_isPiece.f strings_Contains.f
  have e : (s.size : Int) = 1 ↔ (bl s).length = 1 := by rw [bl_len]; omega
  cases h : bl s with
  | nil => rw [if_neg (by rw [e, h]; simp)]; rfl
  | cons c r =>
    cases r with
    | cons d r => rw [if_neg (by rw [e, h]; simp)]; simp [pieceB]
    | nil =>
      rw [if_pos (by rw [e, h]; rfl)]
      first
      | rw [if_pos (by rw [bl_len, h]; rfl)]
      | rw [if_pos (by decide)]
      have hd : s.data.toList = [c] := h
      simp only [Option.bind_some, hd]
      congr 1
      first
      | (refine u8_all (fun c => decide (0 ≤ Lib.indexByte [110, 107, 114, 98] c) = pieceB [c]) ?_ c; decide +kernel)
      | (refine u8_all (fun c => Lib.contains [110, 107, 114, 98] [c] = pieceB [c]) ?_ c; decide +kernel)
theorem wkPiece_eq (s : ByteArray) : spec_wkPiece.f s = some (pieceB (bl s)) := by
  unfold spec_wkPiece.f pieceB
  rw [bl_toList]
  by_cases h1 : bl s = [110]
  · rw [if_pos h1, decide_eq_true h1]; rfl
  · rw [if_neg h1, decide_eq_false h1]
    by_cases h2 : bl s = [107]
    · rw [if_pos h2, decide_eq_true h2]; rfl
    · rw [if_neg h2, decide_eq_false h2]
      by_cases h3 : bl s = [114]
      · rw [if_pos h3, decide_eq_true h3]; rfl
      · rw [if_neg h3, decide_eq_false h3]; simp only [Bool.false_or]; congr 1; rw [Bool.eq_iff_iff, beq_iff_eq, decide_eq_true_eq]
theorem isDigit_eq (s : ByteArray) (h1 : s.size ≤ 9223372036854775807) : impl_isDigit.f s = some (digsB (bl s) 1 1) := by
  unfold impl_isDigit.f
  rw [show impl_isDigits.f s 1 1 = some (digsB (bl s) 1 1) from isDigits_eq s 1 1 h1]; rfl
theorem digit_of {s : ByteArray} (h : digsB (bl s) 1 1 = true) : ∃ d : Nat, d < 10 ∧ s = ⟨#[UInt8.ofNat (48 + d)]⟩ := by
  unfold digsB at h
  simp only [Bool.and_eq_true, decide_eq_true_eq] at h
  have hl : (bl s).length = 1 := by omega
  obtain ⟨c, hc⟩ := List.length_eq_one_iff.1 hl
  have hd := isDig_at h.2 0 (by omega)
  simp only [hc, List.getElem_cons_zero] at hd
  refine ⟨c.toNat - 48, by omega, bl_inj ?_⟩
  rw [hc, bl_mk]
  show [c] = [UInt8.ofNat (48 + (c.toNat - 48))]
  rw [show 48 + (c.toNat - 48) = c.toNat from by omega]; simp
theorem wkAsked_ev (a s : ByteArray) : Ev (fun k => spec_wkAsked.f k a s) (pieceB (bl a) && digsB (bl s) 1 1) := by
  unfold spec_wkAsked.f
  refine Ev.bindc (wkPiece_eq a) ?_
  cases pieceB (bl a) with
  | false => exact Ev.no (Ev.now _)
  | true =>
    refine Ev.yes (Ev.bind (wkDigits_ev s) ?_)
    rw [Bool.true_and]
    cases h : digsB (bl s) 1 40 with
    | false =>
      refine Ev.no (Ev.const ?_)
      have : digsB (bl s) 1 1 = false := by
        rw [Bool.eq_false_iff]; intro h'; rw [Bool.eq_false_iff] at h; apply h
        unfold digsB at h' ⊢
        simp only [Bool.and_eq_true, decide_eq_true_eq] at h' ⊢
        exact ⟨⟨by omega, by omega⟩, h'.2⟩
      rw [this]
    | true =>
      refine Ev.yes (Ev.const ?_)
      unfold digsB at h ⊢
      simp only [Bool.and_eq_true, decide_eq_true_eq] at h
      rw [h.2, Bool.and_true, bl_len]
      congr 1
      rw [Bool.eq_iff_iff, beq_iff_eq, Bool.and_eq_true, decide_eq_true_eq, decide_eq_true_eq]
      omega
def tbl (p : ByteArray) : List (List Int) := (impl_moves.f 300 p).getD []
def isPc (p : ByteArray) : Prop := p = ⟨#[110]⟩ ∨ p = ⟨#[107]⟩ ∨ p = ⟨#[114]⟩ ∨ p = ⟨#[98]⟩
theorem isPc_of {s : ByteArray} (h : pieceB (bl s) = true) : isPc s := pieceB_of h
theorem tbl_n : (impl_moves.f 300 ⟨#[110]⟩).isSome = true := by decide +kernel
theorem tbl_k : (impl_moves.f 300 ⟨#[107]⟩).isSome = true := by decide +kernel
theorem tbl_r : (impl_moves.f 300 ⟨#[114]⟩).isSome = true := by decide +kernel
theorem tbl_b : (impl_moves.f 300 ⟨#[98]⟩).isSome = true := by decide +kernel
theorem moves_at {p : ByteArray} (h : isPc p) : impl_moves.f 300 p = some (tbl p) := by
  have : (impl_moves.f 300 p).isSome = true := by
    rcases h with rfl | rfl | rfl | rfl
    · exact tbl_n
    · exact tbl_k
    · exact tbl_r
    · exact tbl_b
  obtain ⟨l, hl⟩ := Option.isSome_iff_exists.1 this
  unfold tbl; rw [hl]; rfl
theorem moves_ev {p : ByteArray} (h : isPc p) : Ev (fun k => impl_moves.f k p) (tbl p) := Ev.of (impl_moves.mono _) (moves_at h)
theorem tbl_shape {p : ByteArray} (h : isPc p) : (tbl p).length = 10 ∧ ∀ l ∈ tbl p, l.length ≤ 8 ∧ ∀ x ∈ l, 0 ≤ x ∧ x < 10 := by
  rcases h with rfl | rfl | rfl | rfl <;> decide +kernel
theorem rd_tbl {p : ByteArray} (h : isPc p) (d : Nat) (hd : d < 10) : (tbl p).getD d [] ∈ tbl p := by
  have := (tbl_shape h).1
  rw [List.getD_eq_getElem?_getD, List.getElem?_eq_getElem (by omega)]
  exact List.getElem_mem _
theorem goes_n : ∀ d e : Fin 10, spec_wkGoes.f 100 ⟨#[110]⟩ (48 + d.val) (48 + e.val) = some (decide ((e.val : Int) ∈ (tbl ⟨#[110]⟩).getD d.val [])) := by decide +kernel
theorem goes_k : ∀ d e : Fin 10, spec_wkGoes.f 100 ⟨#[107]⟩ (48 + d.val) (48 + e.val) = some (decide ((e.val : Int) ∈ (tbl ⟨#[107]⟩).getD d.val [])) := by decide +kernel
theorem goes_r : ∀ d e : Fin 10, spec_wkGoes.f 100 ⟨#[114]⟩ (48 + d.val) (48 + e.val) = some (decide ((e.val : Int) ∈ (tbl ⟨#[114]⟩).getD d.val [])) := by decide +kernel
theorem goes_b : ∀ d e : Fin 10, spec_wkGoes.f 100 ⟨#[98]⟩ (48 + d.val) (48 + e.val) = some (decide ((e.val : Int) ∈ (tbl ⟨#[98]⟩).getD d.val [])) := by decide +kernel
theorem goes_ev {p : ByteArray} (h : isPc p) (d e : Nat) (hd : d < 10) (he : e < 10) : Ev (fun k => spec_wkGoes.f k p (48 + d) (48 + e)) (decide ((e : Int) ∈ (tbl p).getD d [])) := by
  refine Ev.of (k := 100) (spec_wkGoes.mono _ _ _) ?_
  rcases h with rfl | rfl | rfl | rfl
  · exact goes_n ⟨d, hd⟩ ⟨e, he⟩
  · exact goes_k ⟨d, hd⟩ ⟨e, he⟩
  · exact goes_r ⟨d, hd⟩ ⟨e, he⟩
  · exact goes_b ⟨d, hd⟩ ⟨e, he⟩
theorem idx_l0 (l : List Int) (x : Int) (hl : l.length ≤ 1000000) : ∀ (d i : Nat), i + d = l.length → ∃ r, Ev (fun k => slices_Index_int_int.l0 k l x (l.length : Int) i) r ∧ (0 ≤ r ↔ x ∈ l.drop i)
  | 0, i, hi => by
    refine ⟨-1, ?_, ?_⟩
    · apply Ev.succ; simp only [slices_Index_int_int.l0]; exact Ev.neg (by omega) (Ev.now _)
    · rw [List.drop_of_length_le (by omega)]; simp
  | d + 1, i, hi => by
    have hlt : i < l.length := by omega
    obtain ⟨r, hr, h⟩ := idx_l0 l x hl d (i + 1) (by omega)
    rw [List.drop_eq_getElem_cons hlt]
    by_cases e : x = l[i]
    · refine ⟨i, ?_, ?_⟩
      · apply Ev.succ; simp only [slices_Index_int_int.l0]
        rw [rd_nat l i hlt]
        exact Ev.yes (Ev.yes (Ev.yes (Ev.pos e (Ev.now _))))
      · exact ⟨fun _ => List.mem_cons.2 (.inl e), fun _ => by omega⟩
    · refine ⟨r, ?_, ?_⟩
      · apply Ev.succ; simp only [slices_Index_int_int.l0]
        rw [rd_nat l i hlt, wrap_id (by omega) (by omega)]
        refine Ev.yes (Ev.yes (Ev.yes (Ev.neg e ?_)))
        exact_mod_cast hr
      · rw [h, List.mem_cons]
        exact ⟨.inr, fun h' => h'.elim (fun h'' => absurd h'' e) id⟩
theorem contains_ev (l : List Int) (x : Int) (hl : l.length ≤ 1000000) : Ev (fun k => slices_Contains_int_int.f k l x) (decide (x ∈ l)) := by
  obtain ⟨r, hr, h⟩ := idx_l0 l x hl l.length 0 (by omega)
  unfold slices_Contains_int_int.f slices_Index_int_int.f
  refine Ev.bind hr (Ev.const ?_)
  congr 1
  rw [decide_eq_decide]
  rw [List.drop_zero] at h
  exact h
namespace IsWalk
/-- Does each digit lead to the next one? -/
def walkB (p : ByteArray) : List UInt8 → Bool
  | c :: d :: r => decide (((d.toNat : Int) - 48) ∈ (tbl p).getD (c.toNat - 48) []) && walkB p (d :: r)
  | _ => true
theorem impl_l0 {p : ByteArray} (hp : isPc p) (s : ByteArray) (hs : (bl s).length ≤ 40) (hd : (bl s).all isDig = true) : ∀ (d i : Nat), i + d + 1 = (bl s).length → Ev (fun k => impl_isWalk.l0 k s (tbl p) ((i : Int) + 1)) (walkB p ((bl s).drop i))
  | 0, i, hi => by
    apply Ev.succ; simp only [impl_isWalk.l0]
    refine Ev.neg (by rw [bl_len]; omega) (Ev.const ?_)
    rw [List.drop_eq_getElem_cons (by omega), List.drop_of_length_le (by omega)]; rfl
  | d + 1, i, hi => by
    have h0 : i < (bl s).length := by omega
    have h1 : i + 1 < (bl s).length := by omega
    have d0 := isDig_at hd i h0
    have d1 := isDig_at hd (i + 1) h1
    have hsz : s.size = (bl s).length := rfl
    apply Ev.succ; simp only [impl_isWalk.l0, impl_digit.f, Option.bind_some]
    have e1 : wrap64 ((i : Int) + 1 - 1) = (i : Int) := by rw [wrap_id (by omega) (by omega)]; omega
    have e2 : bt s ((i : Int) + 1) = ((bl s)[i + 1].toNat : Int) := bt_nat s (i + 1) h1
    rw [e1, bt_nat s i h0, e2, wrap_id (n := (i : Int) + 1 + 1) (by omega) (by omega)]
    have e3 : (((bl s)[i].toNat : Int) - 48) % 256 = (((bl s)[i].toNat - 48 : Nat) : Int) := by omega
    have e4 : (((bl s)[i + 1].toNat : Int) - 48) % 256 = ((bl s)[i + 1].toNat : Int) - 48 := by omega
    rw [e3, e4]
    have hl := (tbl_shape hp).1
    refine Ev.yes (Ev.yes (Ev.yes (Ev.yes (Ev.yes (Ev.yes ?_)))))
    have e5 : rd_L5 (tbl p) (((bl s)[i].toNat - 48 : Nat) : Int) = (tbl p).getD ((bl s)[i].toNat - 48) [] := by unfold rd_L5; rw [Int.toNat_natCast]
    rw [e5, List.drop_eq_getElem_cons h0, List.drop_eq_getElem_cons h1]
    unfold walkB
    refine Ev.bind (contains_ev _ _ (by have := ((tbl_shape hp).2 _ (rd_tbl hp ((bl s)[i].toNat - 48) (by omega))).1; omega)) ?_
    cases hc : decide (((bl s)[i + 1].toNat : Int) - 48 ∈ (tbl p).getD ((bl s)[i].toNat - 48) []) with
    | false => exact Ev.no (Ev.now _)
    | true =>
      refine Ev.yes ?_
      rw [Bool.true_and, ← List.drop_eq_getElem_cons h1]
      have := impl_l0 hp s hs hd d (i + 1) (by omega)
      exact_mod_cast this
theorem spec_l0 {p : ByteArray} (hp : isPc p) (s : ByteArray) (hs : (bl s).length ≤ 40) (hd : (bl s).all isDig = true) : ∀ (d i : Nat), i + d + 1 = (bl s).length → Ev (fun k => spec_wkWalk.l0 k p s ((i : Int) + 1)) (walkB p ((bl s).drop i))
  | 0, i, hi => by
    apply Ev.succ; simp only [spec_wkWalk.l0]
    refine Ev.neg (by rw [bl_len]; omega) (Ev.const ?_)
    rw [List.drop_eq_getElem_cons (by omega), List.drop_of_length_le (by omega)]; rfl
  | d + 1, i, hi => by
    have h0 : i < (bl s).length := by omega
    have h1 : i + 1 < (bl s).length := by omega
    have d0 := isDig_at hd i h0
    have d1 := isDig_at hd (i + 1) h1
    have hsz : s.size = (bl s).length := rfl
    apply Ev.succ; simp only [spec_wkWalk.l0]
    have e1 : wrap64 ((i : Int) + 1 - 1) = (i : Int) := by rw [wrap_id (by omega) (by omega)]; omega
    have e2 : bt s ((i : Int) + 1) = ((bl s)[i + 1].toNat : Int) := bt_nat s (i + 1) h1
    rw [e1, bt_nat s i h0, e2, wrap_id (n := (i : Int) + 1 + 1) (by omega) (by omega)]
    refine Ev.yes (Ev.yes (Ev.yes (Ev.yes ?_)))
    have hg := goes_ev hp ((bl s)[i].toNat - 48) ((bl s)[i + 1].toNat - 48) (by omega) (by omega)
    have e3 : (48 : Int) + (((bl s)[i].toNat - 48 : Nat) : Int) = ((bl s)[i].toNat : Int) := by omega
    have e4 : (48 : Int) + (((bl s)[i + 1].toNat - 48 : Nat) : Int) = ((bl s)[i + 1].toNat : Int) := by omega
    have e5 : (((bl s)[i + 1].toNat - 48 : Nat) : Int) = ((bl s)[i + 1].toNat : Int) - 48 := by omega
    rw [e3, e4, e5] at hg
    rw [List.drop_eq_getElem_cons h0, List.drop_eq_getElem_cons h1]
    unfold walkB
    refine Ev.bind hg ?_
    cases hc : decide (((bl s)[i + 1].toNat : Int) - 48 ∈ (tbl p).getD ((bl s)[i].toNat - 48) []) with
    | false => exact Ev.no (Ev.now _)
    | true =>
      refine Ev.yes ?_
      rw [Bool.true_and, ← List.drop_eq_getElem_cons h1]
      have := spec_l0 hp s hs hd d (i + 1) (by omega)
      exact_mod_cast this
/-- A walk of a piece. -/
theorem impl_walk {p : ByteArray} (hp : isPc p) (s : ByteArray) (h1 : s.size ≤ 9223372036854775807) : Ev (fun k => impl_isWalk.f k p s) (digsB (bl s) 1 40 && walkB p (bl s)) := by
  unfold impl_isWalk.f
  refine Ev.bindc (show impl_isDigits.f s 1 40 = some (digsB (bl s) 1 40) from isDigits_eq s 1 40 h1) ?_
  cases h : digsB (bl s) 1 40 with
  | false => exact Ev.no (Ev.now _)
  | true =>
    unfold digsB at h
    simp only [Bool.and_eq_true, decide_eq_true_eq] at h
    refine Ev.yes (Ev.bind (moves_ev hp) ?_)
    rw [Bool.true_and]
    exact impl_l0 hp s h.1.2 h.2 ((bl s).length - 1) 0 (by omega)
theorem spec_walk {p : ByteArray} (hp : isPc p) (s : ByteArray) : Ev (fun k => spec_wkWalk.f k p s) (digsB (bl s) 1 40 && walkB p (bl s)) := by
  unfold spec_wkWalk.f
  refine Ev.bind (wkDigits_ev s) ?_
  cases h : digsB (bl s) 1 40 with
  | false => exact Ev.no (Ev.now _)
  | true =>
    unfold digsB at h
    simp only [Bool.and_eq_true, decide_eq_true_eq] at h
    refine Ev.yes ?_
    rw [Bool.true_and]
    exact spec_l0 hp s h.1.2 h.2 ((bl s).length - 1) 0 (by omega)
end IsWalk
def digsOf (l : List Int) : ByteArray := ⟨(l.map fun e => UInt8.ofNat (48 + e.toNat)).toArray⟩
theorem wkNext_n : ∀ d : Fin 10, spec_wkNext.f 200 ⟨#[110]⟩ (48 + d.val) = some (digsOf ((tbl ⟨#[110]⟩).getD d.val [])) := by decide +kernel
theorem wkNext_k : ∀ d : Fin 10, spec_wkNext.f 200 ⟨#[107]⟩ (48 + d.val) = some (digsOf ((tbl ⟨#[107]⟩).getD d.val [])) := by decide +kernel
theorem wkNext_r : ∀ d : Fin 10, spec_wkNext.f 200 ⟨#[114]⟩ (48 + d.val) = some (digsOf ((tbl ⟨#[114]⟩).getD d.val [])) := by decide +kernel
theorem wkNext_b : ∀ d : Fin 10, spec_wkNext.f 200 ⟨#[98]⟩ (48 + d.val) = some (digsOf ((tbl ⟨#[98]⟩).getD d.val [])) := by decide +kernel
theorem wkNext_ev {p : ByteArray} (h : isPc p) (d : Nat) (hd : d < 10) : Ev (fun k => spec_wkNext.f k p (48 + d)) (digsOf ((tbl p).getD d [])) := by
  refine Ev.of (k := 200) (spec_wkNext.mono _ _) ?_
  rcases h with rfl | rfl | rfl | rfl
  · exact wkNext_n ⟨d, hd⟩
  · exact wkNext_k ⟨d, hd⟩
  · exact wkNext_r ⟨d, hd⟩
  · exact wkNext_b ⟨d, hd⟩
theorem digsOf_len (l : List Int) : (digsOf l).size = l.length := by show (List.toArray _).size = _; simp
theorem digsOf_bt (l : List Int) (hx : ∀ x ∈ l, 0 ≤ x ∧ x < 10) (j : Nat) (h : j < l.length) : bt (digsOf l) (j : Int) = 48 + l[j] := by
  have hl : (bl (digsOf l)).length = l.length := by rw [← bl_len, digsOf_len]
  rw [bt_nat (digsOf l) j (by omega)]
  have e : (bl (digsOf l))[j]'(by omega) = UInt8.ofNat (48 + l[j].toNat) := by
    have : bl (digsOf l) = l.map fun e => UInt8.ofNat (48 + e.toNat) := by show (List.toArray _).toList = _; simp
    simp only [this, List.getElem_map]
  rw [e]
  have hx' := hx _ (List.getElem_mem h)
  rw [UInt8.toNat_ofNat']
  omega
def sumOf (row es : List Int) (a : Int) : Int := es.foldl (fun a e => mn (wrap64 (a + rd row e)) 1000000000000001) a
def stp (tb : List (List Int)) (row : List Int) : List Int := tb.map (fun es => sumOf row es 0)
/-- The row after n steps. -/
def itr (tb : List (List Int)) (row : List Int) : Nat → List Int
  | 0 => row
  | n + 1 => stp tb (itr tb row n)
theorem itr_len {tb : List (List Int)} {row : List Int} (ht : tb.length = 10) (hr : row.length = 10) : ∀ n, (itr tb row n).length = 10
  | 0 => hr
  | n + 1 => by simp [itr, stp, ht]
theorem mid_rd (P Z : List Int) (a : Int) : rd (P ++ a :: Z) (P.length : Int) = a := by
  unfold rd; simp [List.getD_eq_getElem?_getD]
theorem mid_set (P Z : List Int) (a b : Int) : (P ++ a :: Z).set P.length b = P ++ b :: Z := by
  simp [List.set_append]
theorem least_mn (a b : Int) : spec_l1Least.f a b = some (mn a b) := by
  unfold spec_l1Least.f mn; split <;> split <;> first | rfl | (congr 1; omega)
theorem sumOf_step (row es : List Int) (a : Int) (j : Nat) (h : j < es.length) : sumOf row (es.drop j) a = sumOf row (es.drop (j + 1)) (mn (wrap64 (a + rd row es[j])) 1000000000000001) := by
  rw [List.drop_eq_getElem_cons h]; rfl
theorem stepped_l1 (tb : List (List Int)) (row es P Z : List Int) (hr : row.length = 10) (hes : es.length ≤ 8) (hx : ∀ x ∈ es, 0 ≤ x ∧ x < 10) (hP : P.length < 10) (r : List Int) : ∀ (n j : Nat) (a : Int), j + n = es.length →
    Ev (fun k => impl_stepped.l0 k row (P ++ sumOf row (es.drop j) a :: Z) tb 10 ((P.length + 1 : Nat) : Int)) r →
    Ev (fun k => impl_stepped.l1 k row (P ++ a :: Z) P.length tb 10 P.length es (es.length : Int) j) r
  | 0, j, a, hj, h => by
    apply Ev.succ
    simp only [impl_stepped.l1]
    refine Ev.neg (by omega) ?_
    rw [wrap_id (by omega) (by omega)]
    rw [List.drop_of_length_le (by omega)] at h
    exact_mod_cast h
  | n + 1, j, a, hj, h => by
    have hlt : j < es.length := by omega
    have hxj := hx _ (List.getElem_mem hlt)
    apply Ev.succ
    simp only [impl_stepped.l1]
    rw [rd_nat es j hlt, mid_rd, Int.toNat_natCast, mid_set, wrap_id (n := (j : Int) + 1) (by omega) (by omega)]
    refine Ev.pos (by omega) (Ev.pos (by omega) (Ev.pos (by omega) (Ev.pos (by omega) (Ev.pos (by simp; omega) (Ev.pos hxj.1 (Ev.pos (by omega) ?_))))))
    rw [sumOf_step row es a j hlt] at h
    rw [show (j : Int) + 1 = ((j + 1 : Nat) : Int) by omega]
    exact stepped_l1 tb row es P Z hr hes hx hP r n (j + 1) _ (by omega) h
theorem stepped_l0 (tb : List (List Int)) (row : List Int) (ht : tb.length = 10) (htb : ∀ l ∈ tb, l.length ≤ 8 ∧ ∀ x ∈ l, 0 ≤ x ∧ x < 10) (hr : row.length = 10) : ∀ (n : Nat) (P : List Int), P.length + n = 10 →
    Ev (fun k => impl_stepped.l0 k row (P ++ List.replicate n 0) tb 10 P.length) (P ++ (tb.drop P.length).map (fun es => sumOf row es 0))
  | 0, P, hP => by
    apply Ev.succ
    simp only [impl_stepped.l0]
    refine Ev.neg (by omega) (Ev.const ?_)
    rw [List.drop_of_length_le (by omega)]; rfl
  | n + 1, P, hP => by
    have hlt : P.length < tb.length := by omega
    obtain ⟨h8, hx⟩ := htb _ (List.getElem_mem hlt)
    have e : tb.getD (P.length : Int).toNat [] = tb[P.length] := by rw [Int.toNat_natCast, List.getD_eq_getElem?_getD, List.getElem?_eq_getElem hlt]; rfl
    apply Ev.succ
    simp only [impl_stepped.l0]
    refine Ev.pos (by omega) (Ev.pos (by omega) (Ev.pos (by omega) ?_))
    have h := stepped_l0 tb row ht htb hr n (P ++ [sumOf row tb[P.length] 0]) (by simp; omega)
    have h1 := stepped_l1 tb row tb[P.length] P (List.replicate n 0) hr h8 hx (by omega) _ tb[P.length].length 0 0 (by omega) (by
      rw [List.drop_zero]
      simp only [List.append_assoc, List.singleton_append, List.length_append, List.length_cons, List.length_nil] at h
      exact_mod_cast h)
    rw [List.drop_eq_getElem_cons hlt, List.map_cons]
    rw [← e] at h1 ⊢
    rw [List.replicate_succ]
    exact_mod_cast h1
theorem stepped_ev {tb : List (List Int)} {row : List Int} (ht : tb.length = 10) (htb : ∀ l ∈ tb, l.length ≤ 8 ∧ ∀ x ∈ l, 0 ≤ x ∧ x < 10) (hr : row.length = 10) :
    Ev (fun k => impl_stepped.f k tb row) (stp tb row) := by
  unfold impl_stepped.f
  refine Ev.pos (by omega) ?_
  have := stepped_l0 tb row ht htb hr 10 [] (by simp)
  rw [ht]
  simpa [stp] using this
theorem wkTable_l3 {p : ByteArray} (s : Int) (row es P Z : List Int) (x9 : List (List Int)) (hr : row.length = 10) (hes : es.length ≤ 8) (hx : ∀ x ∈ es, 0 ≤ x ∧ x < 10) (hP : P.length < 10) (hZ : P.length + 1 + Z.length = 10) (r : List (List Int)) : ∀ (n j : Nat) (a : Int), j + n = es.length →
    Ev (fun k => spec_wkTable.l2 k p s row x9 (P ++ sumOf row (es.drop j) a :: Z) 10 ((P.length + 1 : Nat) : Int)) r →
    Ev (fun k => spec_wkTable.l3 k p s row x9 (P ++ a :: Z) P.length (digsOf es) j 10 P.length) r
  | 0, j, a, hj, h => by
    apply Ev.succ
    simp only [spec_wkTable.l3]
    refine Ev.neg (by rw [digsOf_len]; omega) ?_
    rw [wrap_id (by omega) (by omega)]
    rw [List.drop_of_length_le (by omega)] at h
    exact_mod_cast h
  | n + 1, j, a, hj, h => by
    have hlt : j < es.length := by omega
    have hxj := hx _ (List.getElem_mem hlt)
    have e8 : (48 + es[j] - 48) % 256 = es[j] := by rw [show 48 + es[j] - 48 = es[j] by omega]; exact Int.emod_eq_of_lt (by omega) (by omega)
    apply Ev.succ
    simp only [spec_wkTable.l3]
    rw [digsOf_bt es hx j hlt, e8, mid_rd, Int.toNat_natCast, wrap_id (n := (j : Int) + 1) (by omega) (by omega)]
    refine Ev.pos (by rw [digsOf_len]; omega) (Ev.pos (by omega) (Ev.pos (by simp; omega) (Ev.pos (by omega) (Ev.pos hxj.1 (Ev.pos (by omega) (Ev.bindc (least_mn _ _) ?_))))))
    rw [mid_set]
    rw [sumOf_step row es a j hlt] at h
    rw [show (j : Int) + 1 = ((j + 1 : Nat) : Int) by omega]
    exact wkTable_l3 s row es P Z x9 hr hes hx hP hZ r n (j + 1) _ (by omega) h
theorem wkTable_l2 {p : ByteArray} (hp : isPc p) (s : Int) (row : List Int) (x9 : List (List Int)) (hr : row.length = 10) (h9 : x9.length < 1000000) (r : List (List Int))
    (h : Ev (fun k => spec_wkTable.l1 k p (wrap64 (s - 1)) (stp (tbl p) row) (x9 ++ [stp (tbl p) row])) r) : ∀ (n : Nat) (P : List Int), P.length + n = 10 → P = ((tbl p).take P.length).map (fun es => sumOf row es 0) →
    Ev (fun k => spec_wkTable.l2 k p s row x9 (P ++ List.replicate n 0) 10 P.length) r
  | 0, P, hP, hq => by
    have e : P = stp (tbl p) row := by
      rw [hq, List.take_of_length_le (by rw [(tbl_shape hp).1]; omega)]; rfl
    apply Ev.succ
    simp only [spec_wkTable.l2]
    refine Ev.neg (by omega) (Ev.pos (by omega) ?_)
    rw [List.replicate_zero, List.append_nil, e]
    exact h
  | n + 1, P, hP, hq => by
    obtain ⟨h10, htb⟩ := tbl_shape hp
    have hlt : P.length < (tbl p).length := by omega
    obtain ⟨h8, hx⟩ := htb _ (List.getElem_mem hlt)
    have e : (tbl p).getD P.length [] = (tbl p)[P.length] := by rw [List.getD_eq_getElem?_getD, List.getElem?_eq_getElem hlt]; rfl
    apply Ev.succ
    simp only [spec_wkTable.l2]
    refine Ev.pos (by omega) ?_
    have e1 : wrap64 (48 + (P.length : Int)) % 256 = 48 + (P.length : Int) := by rw [wrap_id (by omega) (by omega)]; exact Int.emod_eq_of_lt (by omega) (by omega)
    rw [e1]
    refine Ev.bind (wkNext_ev hp P.length (by omega)) ?_
    rw [e, List.replicate_succ]
    have h2 := wkTable_l2 hp s row x9 hr h9 r h n (P ++ [sumOf row (tbl p)[P.length] 0]) (by simp; omega) (by
      rw [List.length_append, List.length_singleton, List.take_succ_eq_append_getElem hlt, List.map_append, ← hq]; rfl)
    exact wkTable_l3 s row (tbl p)[P.length] P (List.replicate n 0) x9 hr h8 hx (by omega) (by simp; omega) r (tbl p)[P.length].length 0 0 (by omega) (by
      rw [List.drop_zero]
      simp only [List.append_assoc, List.singleton_append, List.length_append, List.length_cons, List.length_nil] at h2
      exact_mod_cast h2)
/-- The rows of so many steps. -/
def rowsOf (tb : List (List Int)) (row : List Int) (n : Nat) : List (List Int) := (List.range (n + 1)).map (itr tb row)
theorem rowsOf_succ (tb : List (List Int)) (row : List Int) (n : Nat) : rowsOf tb row (n + 1) = rowsOf tb row n ++ [itr tb row (n + 1)] := by
  unfold rowsOf; rw [List.range_succ, List.map_append]; rfl
theorem wkTable_l1 {p : ByteArray} (hp : isPc p) (row : List Int) (hr : row.length = 10) : ∀ (n i : Nat), i + n ≤ 1000 →
    Ev (fun k => spec_wkTable.l1 k p n (itr (tbl p) row i) (rowsOf (tbl p) row i)) (rowsOf (tbl p) row (i + n))
  | 0, i, hi => by
    apply Ev.succ
    simp only [spec_wkTable.l1]
    exact Ev.neg (by omega) (Ev.now _)
  | n + 1, i, hi => by
    apply Ev.succ
    simp only [spec_wkTable.l1]
    refine Ev.pos (by omega) (Ev.pos (by omega) (Ev.bindc rfl ?_))
    have h := wkTable_l1 hp row hr n (i + 1) (by omega)
    rw [rowsOf_succ] at h
    have e : wrap64 (((n + 1 : Nat) : Int) - 1) = n := by rw [wrap_id (by omega) (by omega)]; omega
    have := wkTable_l2 hp ((n + 1 : Nat) : Int) (itr (tbl p) row i) (rowsOf (tbl p) row i) (itr_len (tbl_shape hp).1 hr i) (by unfold rowsOf; simp; omega) _ (by rw [e]; exact h) 10 [] (by simp) (by simp)
    rw [show i + (n + 1) = i + 1 + n by omega]
    simpa using this
/-- The first row: to one digit (as a sign), or to any. -/
def row0 (t0 : Int) : List Int := (List.range 10).map fun d : Nat => if t0 = 0 ∨ (d : Int) = (t0 - 48) % 256 then 1 else 0
theorem wkTable_l0 {p : ByteArray} (s t0 : Int) (r : List (List Int)) (h : Ev (fun k => spec_wkTable.l1 k p s (row0 t0) [row0 t0]) r) : ∀ (n : Nat) (P : List Int), P.length + n = 10 → P = (List.range P.length).map (fun d : Nat => if t0 = 0 ∨ (d : Int) = (t0 - 48) % 256 then 1 else 0) →
    Ev (fun k => spec_wkTable.l0 k p s t0 (P ++ List.replicate n 0) 10 P.length) r
  | 0, P, hP, hq => by
    have e : P = row0 t0 := by rw [hq, show P.length = 10 by omega]; rfl
    apply Ev.succ
    simp only [spec_wkTable.l0]
    refine Ev.neg (by omega) ?_
    rw [List.replicate_zero, List.append_nil, e]
    exact h
  | n + 1, P, hP, hq => by
    apply Ev.succ
    simp only [spec_wkTable.l0]
    refine Ev.pos (by omega) ?_
    rw [List.replicate_succ, Int.toNat_natCast, mid_set, wrap_id (n := (P.length : Int) + 1) (by omega) (by omega)]
    have nx : ∀ v, v = (if t0 = 0 ∨ (P.length : Int) = (t0 - 48) % 256 then 1 else 0) → Ev (fun k => spec_wkTable.l0 k p s t0 (P ++ v :: List.replicate n 0) 10 ((P.length : Int) + 1)) r := by
      intro v hv
      have := wkTable_l0 s t0 r h n (P ++ [v]) (by simp; omega) (by
        rw [List.length_append, List.length_singleton, List.range_succ, List.map_append, ← hq, hv]; rfl)
      simp only [List.append_assoc, List.singleton_append, List.length_append, List.length_cons, List.length_nil] at this
      exact_mod_cast this
    by_cases c : t0 = 0
    · refine Ev.pos c (Ev.pos (by omega) (Ev.pos (by simp; omega) ?_))
      exact nx 1 (by rw [if_pos (.inl c)])
    · refine Ev.neg c ?_
      by_cases c2 : (P.length : Int) = (t0 - 48) % 256
      · refine Ev.pos c2 (Ev.pos (by omega) (Ev.pos (by simp; omega) ?_))
        exact nx 1 (by rw [if_pos (.inr c2)])
      · refine Ev.neg c2 ?_
        exact nx 0 (by rw [if_neg (fun h' => h'.elim c c2)])
theorem row0_len (t0 : Int) : (row0 t0).length = 10 := by simp [row0]
theorem wkTable_ev {p : ByteArray} (hp : isPc p) (n : Nat) (hn : n ≤ 1000) (t0 : Int) : Ev (fun k => spec_wkTable.f k p n t0) (rowsOf (tbl p) (row0 t0) n) := by
  unfold spec_wkTable.f
  refine Ev.pos (by omega) (Ev.bindc rfl ?_)
  have h := wkTable_l1 hp (row0 t0) (row0_len t0) n 0 (by omega)
  rw [Nat.zero_add] at h
  have := wkTable_l0 n t0 _ h 10 [] (by simp) (by simp)
  simpa using this
theorem rowsOf_at (tb : List (List Int)) (row : List Int) (n i : Nat) (h : i ≤ n) : (rowsOf tb row n).getD (i : Int).toNat [] = itr tb row i := by
  unfold rowsOf
  rw [Int.toNat_natCast, List.getD_eq_getElem?_getD, List.getElem?_eq_getElem (by simp; omega)]
  simp
theorem rowsOf_len (tb : List (List Int)) (row : List Int) (n : Nat) : (rowsOf tb row n).length = n + 1 := by simp [rowsOf]
theorem row0_any : row0 0 = List.replicate 10 1 := by decide
theorem numbers_l0 {p : ByteArray} (hp : isPc p) (n : Nat) (hn : n ≤ 1000) : ∀ (d i : Nat), i + d = n →
    Ev (fun k => impl_numbers.l0 k (itr (tbl p) (row0 0) i) (tbl p) n i) (itr (tbl p) (row0 0) n)
  | 0, i, hi => by
    apply Ev.succ
    simp only [impl_numbers.l0]
    refine Ev.neg (by omega) (Ev.const ?_)
    rw [show i = n by omega]
  | d + 1, i, hi => by
    obtain ⟨h10, htb⟩ := tbl_shape hp
    apply Ev.succ
    simp only [impl_numbers.l0]
    refine Ev.pos (by omega) (Ev.bind (stepped_ev h10 htb (itr_len h10 (row0_len 0) i)) ?_)
    rw [wrap_id (by omega) (by omega), show (i : Int) + 1 = ((i + 1 : Nat) : Int) by omega]
    exact numbers_l0 hp n hn d (i + 1) (by omega)
theorem numbers_ev {p : ByteArray} (hp : isPc p) (n : Nat) (hn : n ≤ 1000) : Ev (fun k => impl_numbers.f k p ((n : Int) + 1)) (itr (tbl p) (row0 0) n) := by
  unfold impl_numbers.f
  refine Ev.bindc (x := List.replicate 10 1) rfl (Ev.bind (moves_ev hp) ?_)
  rw [show wrap64 ((n : Int) + 1 - 1) = n by rw [wrap_id (by omega) (by omega)]; omega, ← row0_any]
  exact numbers_l0 hp n hn n 0 (by omega)
theorem mn_bd' (a b : Int) (ha : 0 ≤ a) (hb : 0 ≤ b) : 0 ≤ mn a b ∧ mn a b ≤ b := by unfold mn; split <;> omega
theorem rd_bd (row : List Int) (h : ∀ x ∈ row, 0 ≤ x ∧ x ≤ 1000000000000001) (e : Int) : 0 ≤ rd row e ∧ rd row e ≤ 1000000000000001 := by
  unfold rd
  rw [List.getD_eq_getElem?_getD]
  cases h' : row[e.toNat]? with
  | none => simp
  | some x => exact h x (List.mem_of_getElem? h')
theorem sumOf_bd (row : List Int) (h : ∀ x ∈ row, 0 ≤ x ∧ x ≤ 1000000000000001) : ∀ (es : List Int) (a : Int), 0 ≤ a → a ≤ 1000000000000001 → 0 ≤ sumOf row es a ∧ sumOf row es a ≤ 1000000000000001
  | [], a, h0, h1 => ⟨h0, h1⟩
  | e :: es, a, h0, h1 => by
    have hr := rd_bd row h e
    have hm := mn_bd' (wrap64 (a + rd row e)) 1000000000000001 (by rw [wrap_id (by omega) (by omega)]; omega) (by omega)
    exact sumOf_bd row h es _ hm.1 hm.2
theorem itr_bd (tb : List (List Int)) (row : List Int) (h : ∀ x ∈ row, 0 ≤ x ∧ x ≤ 1000000000000001) : ∀ n, ∀ x ∈ itr tb row n, 0 ≤ x ∧ x ≤ 1000000000000001
  | 0 => h
  | n + 1 => by
    intro x hx
    simp only [itr, stp, List.mem_map] at hx
    obtain ⟨es, _, rfl⟩ := hx
    exact sumOf_bd _ (itr_bd tb row h n) es 0 (by omega) (by omega)
theorem row0_bd : ∀ x ∈ row0 0, 0 ≤ x ∧ x ≤ 1000000000000001 := by decide
def fewP (n : Int) : Int × Bool := if n > 1000000000000000 then (0, false) else (n, true)
theorem few_eq (n : Int) : impl_few.f n = some (fewP n) := by unfold impl_few.f fewP; split <;> rfl
theorem wkCount_ev {p : ByteArray} (hp : isPc p) (e n : Nat) (he : e < 10) (hn : n ≤ 1000) (t0 : Int) : Ev (fun k => spec_wkCount.f k p (48 + e) t0 n) (fewP (rd (itr (tbl p) (row0 t0) n) e)) := by
  unfold spec_wkCount.f
  refine Ev.bind (wkTable_ev hp n hn t0) ?_
  have e1 : (48 + (e : Int) - 48) % 256 = e := by rw [show 48 + (e : Int) - 48 = e by omega]; exact Int.emod_eq_of_lt (by omega) (by omega)
  have e2 : rd_L5 (rowsOf (tbl p) (row0 t0) n) n = itr (tbl p) (row0 t0) n := rowsOf_at _ _ _ _ (Nat.le_refl _)
  rw [e1, e2]
  have hl := itr_len (tbl_shape hp).1 (row0_len t0) n
  refine Ev.pos (by omega) (Ev.pos (by rw [rowsOf_len]; omega) (Ev.pos (by omega) (Ev.pos (by omega) (Ev.const ?_))))
  unfold fewP; split <;> rfl
theorem sign_bt (d : Nat) (h : d < 10) : bt (⟨#[UInt8.ofNat (48 + d)]⟩ : ByteArray) 0 = 48 + d := by
  have : ∀ d : Fin 10, bt (⟨#[UInt8.ofNat (48 + d.val)]⟩ : ByteArray) 0 = 48 + d.val := by decide
  exact this ⟨d, h⟩
theorem sign_size (d : Nat) : (0 : Int) < ((⟨#[UInt8.ofNat (48 + d)]⟩ : ByteArray).size : Int) := by show (0 : Int) < ((1 : Nat) : Int); omega
theorem digit_sign (d : Nat) (h : d < 10) : ((48 + (d : Int)) - 48) % 256 = d := by rw [show 48 + (d : Int) - 48 = d by omega]; exact Int.emod_eq_of_lt (by omega) (by omega)
theorem countNumbers_two (a s : ByteArray) (n : Int) (h1 : s.size ≤ 9223372036854775807) : ∃ r, Ev (fun k => spec_CountNumbers.f k a s n) r ∧ Ev (fun k => impl_CountNumbers.f k a s n) r ∧ (r.2 = true → ∃ (d m : Nat), isPc a ∧ d < 10 ∧ s = ⟨#[UInt8.ofNat (48 + d)]⟩ ∧ n = (m : Int) + 1 ∧ m < 40 ∧ 0 ≤ r.1 ∧ r.1 ≤ 1000000000000000 ∧ r = fewP (rd (itr (tbl a) (row0 0) m) d)) := by
  unfold spec_CountNumbers.f impl_CountNumbers.f
  have fi : Ev (fun k => impl_CountNumbers.j0 k a s n true) (0, false) := by
    apply Ev.succ; simp only [impl_CountNumbers.j0]; exact Ev.yes (Ev.now _)
  cases hp : pieceB (bl a) with
  | false => exact ⟨(0, false), Ev.bind (wkAsked_ev a s) (by rw [hp, Bool.false_and]; exact Ev.no (Ev.now _)), Ev.bindc (by rw [isPiece_eq, hp]) (Ev.no fi), fun h => by cases h⟩
  | true =>
    cases hd : digsB (bl s) 1 1 with
    | false => exact ⟨(0, false), Ev.bind (wkAsked_ev a s) (by rw [hp, hd, Bool.and_false]; exact Ev.no (Ev.now _)), Ev.bindc (by rw [isPiece_eq, hp]) (Ev.yes (Ev.bindc (by rw [isDigit_eq s h1, hd]) (Ev.no fi))), fun h => by cases h⟩
    | true =>
      cases hn : (decide (1 ≤ n) && decide (n ≤ 40)) with
      | false => exact ⟨(0, false), Ev.bind (wkAsked_ev a s) (by rw [hp, hd, Bool.and_true]; exact Ev.yes (Ev.bindc (by rw [l1In_eq, hn]) (Ev.no (Ev.now _)))), Ev.bindc (by rw [isPiece_eq, hp]) (Ev.yes (Ev.bindc (by rw [isDigit_eq s h1, hd]) (Ev.yes (Ev.bindc (x := false) (by unfold impl_longOk.f; rw [in_eq, hn]; rfl) fi)))), fun h => by cases h⟩
      | true =>
        have hpc := isPc_of hp
        obtain ⟨d, hd10, rfl⟩ := digit_of hd
        simp only [Bool.and_eq_true, decide_eq_true_eq] at hn
        obtain ⟨m, rfl⟩ : ∃ m : Nat, n = (m : Int) + 1 := ⟨(n - 1).toNat, by omega⟩
        have hr := itr_len (tbl_shape hpc).1 (row0_len 0) m
        have em : wrap64 ((m : Int) + 1 - 1) = m := by rw [wrap_id (by omega) (by omega)]; omega
        have hlo : (decide (1 ≤ (m : Int) + 1) && decide ((m : Int) + 1 ≤ 40)) = true := by simp; omega
        refine ⟨fewP (rd (itr (tbl a) (row0 0) m) d), Ev.bind (wkAsked_ev a _) ?_, Ev.bindc (by rw [isPiece_eq, hp]) (Ev.yes (Ev.bindc (by rw [isDigit_eq _ h1, hd]) (Ev.yes (Ev.bindc (by unfold impl_longOk.f; rw [in_eq, hlo]; rfl) (Ev.succ ?_))))), fun h => ⟨d, m, hpc, hd10, rfl, rfl, by omega, ?_, ?_, rfl⟩⟩
        · rw [hp, hd, Bool.and_true, em]
          refine Ev.yes (Ev.bindc (by rw [l1In_eq, hlo]) (Ev.yes (Ev.pos (sign_size d) ?_)))
          rw [sign_bt d hd10]
          exact Ev.bind (wkCount_ev hpc d m hd10 (by omega) 0) (Ev.now _)
        · simp only [impl_CountNumbers.j0]
          refine Ev.no (Ev.bind (numbers_ev hpc m (by omega)) (Ev.pos (sign_size d) ?_))
          rw [sign_bt d hd10]
          simp only [impl_digit.f, Option.bind_some, digit_sign d hd10]
          refine Ev.pos (by omega) (Ev.pos (by omega) (Ev.bindc (few_eq _) (Ev.now _)))
        · have hb := rd_bd _ (itr_bd (tbl a) (row0 0) row0_bd m) (d : Int)
          unfold fewP; split <;> simp only <;> omega
        · have hb := rd_bd _ (itr_bd (tbl a) (row0 0) row0_bd m) (d : Int)
          unfold fewP; split <;> simp only <;> omega
end Go.Proofs.YtffbfkfbeggdnaaGreatDoor
namespace Go.Proofs.YtffbfkfbeggdnaaGreatDoor
open Go.RowKit Go.Proofs.YtffbfkfbeggdnaaGreatDoor.P Go.Proofs.YtffbfkfbeggdnaaGreatDoorW.PrintWords IsWalk
set_option linter.unusedSimpArgs false
set_option linter.unusedVariables false
namespace RankOf
theorem nexts_n : ∀ d : Fin 10, impl_nexts.f 200 ⟨#[110]⟩ (d.val : Int) = some ((tbl ⟨#[110]⟩).getD d.val []) := by decide +kernel
theorem nexts_k : ∀ d : Fin 10, impl_nexts.f 200 ⟨#[107]⟩ (d.val : Int) = some ((tbl ⟨#[107]⟩).getD d.val []) := by decide +kernel
theorem nexts_r : ∀ d : Fin 10, impl_nexts.f 200 ⟨#[114]⟩ (d.val : Int) = some ((tbl ⟨#[114]⟩).getD d.val []) := by decide +kernel
theorem nexts_b : ∀ d : Fin 10, impl_nexts.f 200 ⟨#[98]⟩ (d.val : Int) = some ((tbl ⟨#[98]⟩).getD d.val []) := by decide +kernel
theorem nexts_ev {p : ByteArray} (h : isPc p) (d : Nat) (hd : d < 10) : Ev (fun k => impl_nexts.f k p d) ((tbl p).getD d []) := by
  refine Ev.of (k := 200) (impl_nexts.mono _ _) ?_
  rcases h with rfl | rfl | rfl | rfl
  · exact nexts_n ⟨d, hd⟩
  · exact nexts_k ⟨d, hd⟩
  · exact nexts_r ⟨d, hd⟩
  · exact nexts_b ⟨d, hd⟩
/-- Do the numbers rise? -/
def rises : List Int → Bool
  | a :: b :: r => decide (a < b) && rises (b :: r)
  | _ => true
theorem tbl_rises {p : ByteArray} (h : isPc p) : ∀ l ∈ tbl p, rises l = true := by
  rcases h with rfl | rfl | rfl | rfl <;> decide +kernel
def addI (row : List Int) (c : Int) : List Int → Int → Int
  | [], acc => acc
  | e :: es, acc => addI row c es (if e < c then wrap64 (acc + rd row e) else acc)
def addS (row : List Int) (c : Int) : List Int → Int → Int
  | [], acc => acc
  | e :: es, acc => if e = c then acc else addS row c es (wrap64 (acc + rd row e))
theorem rises_lt : ∀ (es : List Int) (a : Int), rises (a :: es) = true → ∀ x ∈ es, a < x
  | [], a, _ => by simp
  | b :: r, a, h => by
    simp only [rises, Bool.and_eq_true, decide_eq_true_eq] at h
    intro x hx
    rcases List.mem_cons.1 hx with rfl | hx
    · exact h.1
    · have := rises_lt r b h.2 x hx; omega
theorem rises_tail (a : Int) (es : List Int) (h : rises (a :: es) = true) : rises es = true := by
  cases es with
  | nil => rfl
  | cons b r => simp only [rises, Bool.and_eq_true] at h; exact h.2
theorem addI_done (row : List Int) (c : Int) : ∀ (es : List Int) (acc : Int), (∀ x ∈ es, c < x) → addI row c es acc = acc
  | [], acc, _ => rfl
  | e :: es, acc, h => by
    have := h e List.mem_cons_self
    rw [addI, if_neg (by omega)]
    exact addI_done row c es acc (fun x hx => h x (List.mem_cons_of_mem _ hx))
theorem addI_S (row : List Int) (c : Int) : ∀ (es : List Int) (acc : Int), rises es = true → c ∈ es → addI row c es acc = addS row c es acc
  | [], acc, _, h => by simp at h
  | e :: es, acc, hr, h => by
    rw [addI, addS]
    by_cases e1 : e = c
    · subst e1
      rw [if_neg (by omega), if_pos rfl]
      exact addI_done row e es acc (rises_lt es e hr)
    · have hm : c ∈ es := by rcases List.mem_cons.1 h with h' | h'; exact absurd h'.symm e1; exact h'
      rw [if_pos (rises_lt es e hr c hm), if_neg e1]
      exact addI_S row c es _ (rises_tail e es hr) hm
/-- The rank of a walk, told by its signs. -/
def rankP (tb : List (List Int)) : List UInt8 → Int → Int
  | c :: d :: r, acc => rankP tb (d :: r) (addS (itr tb (row0 0) r.length) ((d.toNat : Int) - 48) (tb.getD (c.toNat - 48) []) acc)
  | _, acc => acc
theorem impl_l1 {p s : ByteArray} (i : Nat) (row : List Int) (hr : row.length = 10) (es : List Int) (hes : es.length ≤ 8) (hx : ∀ x ∈ es, 0 ≤ x ∧ x < 10) (hi : i < (bl s).length) (hl : (bl s).length ≤ 40) (c : Nat) (hc : (bl s)[i].toNat = 48 + c) (hc10 : c < 10) (res : Int × Bool) : ∀ (n j : Nat) (acc : Int), j + n = es.length →
    Ev (fun k => impl_RankOfNumber.l0 k p s (addI row c (es.drop j) acc) ((i : Int) + 1)) res →
    Ev (fun k => impl_RankOfNumber.l1 k p s acc i row es (es.length : Int) j) res
  | 0, j, acc, hj, h => by
    apply Ev.succ
    simp only [impl_RankOfNumber.l1]
    rw [wrap_id (n := (i : Int) + 1) (by omega) (by omega)]
    refine Ev.neg (by omega) ?_
    rw [List.drop_of_length_le (by omega)] at h
    exact h
  | n + 1, j, acc, hj, h => by
    have hlt : j < es.length := by omega
    have hxj := hx _ (List.getElem_mem hlt)
    have hsz : s.size = (bl s).length := rfl
    rw [List.drop_eq_getElem_cons hlt, addI] at h
    apply Ev.succ
    simp only [impl_RankOfNumber.l1, impl_digit.f, Option.bind_some]
    rw [rd_nat es j hlt, bt_nat s i hi, hc, wrap_id (n := (j : Int) + 1) (by omega) (by omega), show (((48 + c : Nat) : Int) - 48) % 256 = c by omega]
    refine Ev.pos (by omega) (Ev.pos (by omega) (Ev.pos (by omega) (Ev.pos (by omega) (Ev.pos (by omega) ?_))))
    rw [show (j : Int) + 1 = ((j + 1 : Nat) : Int) by omega]
    by_cases c1 : es[j] < (c : Int)
    · rw [if_pos c1] at h
      exact Ev.pos c1 (Ev.pos hxj.1 (Ev.pos (by omega) (impl_l1 i row hr es hes hx hi hl c hc hc10 res n (j + 1) _ (by omega) h)))
    · rw [if_neg c1] at h
      exact Ev.neg c1 (impl_l1 i row hr es hes hx hi hl c hc hc10 res n (j + 1) _ (by omega) h)
theorem spec_l1 {p s : ByteArray} (i : Nat) (rows : List (List Int)) (row : List Int) (hrow : rows.getD ((bl s).length - 1 - i) [] = row) (hrl : (bl s).length - 1 - i < rows.length) (hr : row.length = 10) (es : List Int) (hes : es.length ≤ 8) (hx : ∀ x ∈ es, 0 ≤ x ∧ x < 10) (hi : i < (bl s).length) (hl : (bl s).length ≤ 40) (c : Nat) (hc : (bl s)[i].toNat = 48 + c) (hc10 : c < 10) (res : Int × Bool) : ∀ (n j : Nat) (acc : Int), j + n = es.length →
    Ev (fun k => spec_RankOfNumber.l0 k p s rows (addS row c (es.drop j) acc) ((i : Int) + 1)) res →
    Ev (fun k => spec_RankOfNumber.l1 k p s rows acc i (digsOf es) j) res
  | 0, j, acc, hj, h => by
    apply Ev.succ
    simp only [spec_RankOfNumber.l1]
    rw [wrap_id (n := (i : Int) + 1) (by omega) (by omega)]
    refine Ev.neg (by rw [digsOf_len]; omega) ?_
    rw [List.drop_of_length_le (by omega)] at h
    exact h
  | n + 1, j, acc, hj, h => by
    have hlt : j < es.length := by omega
    have hxj := hx _ (List.getElem_mem hlt)
    have hsz : s.size = (bl s).length := rfl
    have e8 : (48 + es[j] - 48) % 256 = es[j] := by rw [show 48 + es[j] - 48 = es[j] by omega]; exact Int.emod_eq_of_lt (by omega) (by omega)
    have ei : wrap64 (wrap64 ((s.size : Int) - 1) - (i : Int)) = (((bl s).length - 1 - i : Nat) : Int) := by
      rw [wrap_id (n := (s.size : Int) - 1) (by omega) (by omega), wrap_id (by omega) (by omega)]; omega
    have erow : rd_L5 rows (((bl s).length - 1 - i : Nat) : Int) = row := by unfold rd_L5; rw [Int.toNat_natCast]; exact hrow
    rw [List.drop_eq_getElem_cons hlt, addS] at h
    apply Ev.succ
    simp only [spec_RankOfNumber.l1]
    rw [digsOf_bt es hx j hlt, bt_nat s i hi, hc, e8, ei, erow, wrap_id (n := (j : Int) + 1) (by omega) (by omega), wrap_id (n := (i : Int) + 1) (by omega) (by omega)]
    refine Ev.pos (by rw [digsOf_len]; omega) (Ev.pos (by omega) (Ev.pos (by omega) (Ev.pos (by omega) ?_)))
    by_cases c1 : es[j] = (c : Int)
    · rw [if_pos c1] at h
      exact Ev.pos (by omega) h
    · rw [if_neg c1] at h
      refine Ev.neg (by omega) (Ev.pos (by omega) (Ev.pos (by omega) (Ev.pos hxj.1 (Ev.pos (by omega) ?_))))
      rw [show (j : Int) + 1 = ((j + 1 : Nat) : Int) by omega]
      exact spec_l1 i rows row hrow hrl hr es hes hx hi hl c hc hc10 res n (j + 1) _ (by omega) h
theorem both_l0 {p : ByteArray} (hp : isPc p) (s : ByteArray) (hl : (bl s).length ≤ 40) (hd : (bl s).all isDig = true) : ∀ (n i : Nat) (acc : Int), i + n + 1 = (bl s).length → walkB p ((bl s).drop i) = true →
    Ev (fun k => impl_RankOfNumber.l0 k p s acc ((i : Int) + 1)) (rankP (tbl p) ((bl s).drop i) acc, true) ∧
    Ev (fun k => spec_RankOfNumber.l0 k p s (rowsOf (tbl p) (row0 0) ((bl s).length - 1)) acc ((i : Int) + 1)) (rankP (tbl p) ((bl s).drop i) acc, true)
  | 0, i, acc, hi, hw => by
    have hsz : s.size = (bl s).length := rfl
    have e : (bl s).drop i = [(bl s)[i]'(by omega)] := by
      rw [List.drop_eq_getElem_cons (by omega), List.drop_of_length_le (by omega)]
    constructor
    · apply Ev.succ; simp only [impl_RankOfNumber.l0]
      refine Ev.neg (by omega) (Ev.const ?_)
      rw [e]; rfl
    · apply Ev.succ; simp only [spec_RankOfNumber.l0]
      refine Ev.neg (by omega) (Ev.const ?_)
      rw [e]; rfl
  | n + 1, i, acc, hi, hw => by
    have hsz : s.size = (bl s).length := rfl
    have h0 : i < (bl s).length := by omega
    have h1 : i + 1 < (bl s).length := by omega
    have d0 := isDig_at hd i h0
    have d1 := isDig_at hd (i + 1) h1
    have es : (bl s).drop i = (bl s)[i] :: (bl s)[i + 1] :: (bl s).drop (i + 1 + 1) := by rw [List.drop_eq_getElem_cons h0, List.drop_eq_getElem_cons h1]
    have es1 : (bl s).drop (i + 1) = (bl s)[i + 1] :: (bl s).drop (i + 1 + 1) := List.drop_eq_getElem_cons h1
    obtain ⟨a, ha⟩ : ∃ a : Nat, (bl s)[i].toNat = 48 + a := ⟨(bl s)[i].toNat - 48, by omega⟩
    obtain ⟨c, hc⟩ : ∃ c : Nat, (bl s)[i + 1].toNat = 48 + c := ⟨(bl s)[i + 1].toNat - 48, by omega⟩
    have ha10 : a < 10 := by omega
    have hc10 : c < 10 := by omega
    rw [es, walkB, Bool.and_eq_true, ← es1] at hw
    have hmem := rd_tbl hp a ha10
    obtain ⟨h8, hx8⟩ := (tbl_shape hp).2 _ hmem
    have hin : (c : Int) ∈ (tbl p).getD a [] := by
      have := of_decide_eq_true hw.1
      rw [hc, ha, show ((48 + c : Nat) : Int) - 48 = c by omega, show 48 + a - 48 = a by omega] at this
      exact this
    obtain ⟨q1, q2⟩ := both_l0 hp s hl hd n (i + 1) (addS (itr (tbl p) (row0 0) ((bl s).drop (i + 1 + 1)).length) ((c : Nat) : Int) ((tbl p).getD a []) acc) (by omega) hw.2
    have ew : wrap64 ((i : Int) + 1 - 1) = i := by rw [wrap_id (by omega) (by omega)]; omega
    have hL : ((bl s).drop (i + 1 + 1)).length = n := by rw [List.length_drop]; omega
    have er : rankP (tbl p) ((bl s).drop i) acc = rankP (tbl p) ((bl s).drop (i + 1)) (addS (itr (tbl p) (row0 0) n) ((c : Nat) : Int) ((tbl p).getD a []) acc) := by
      rw [es, rankP, ← es1, hL, hc, ha, show ((48 + c : Nat) : Int) - 48 = c by omega, show 48 + a - 48 = a by omega]
    have hrl := itr_len (tbl_shape hp).1 (row0_len 0) n
    rw [er]
    rw [hL] at q1 q2
    constructor
    · apply Ev.succ; simp only [impl_RankOfNumber.l0, impl_digit.f, Option.bind_some]
      refine Ev.pos (by omega) ?_
      have em : wrap64 ((s.size : Int) - ((i : Int) + 1)) = (n : Int) + 1 := by rw [wrap_id (by omega) (by omega)]; omega
      rw [em, ew, bt_nat s i h0, ha, show (((48 + a : Nat) : Int) - 48) % 256 = a by omega]
      refine Ev.bind (numbers_ev hp n (by omega)) (Ev.pos (by omega) (Ev.pos (by omega) (Ev.bind (nexts_ev hp a ha10) ?_)))
      refine impl_l1 (i + 1) _ hrl _ h8 hx8 h1 hl c hc hc10 _ ((tbl p).getD a []).length 0 acc (by omega) ?_
      rw [List.drop_zero, addI_S _ _ _ _ (tbl_rises hp _ hmem) hin]
      exact_mod_cast q1
    · apply Ev.succ; simp only [spec_RankOfNumber.l0]
      rw [ew, bt_nat s i h0, ha, show ((48 + a : Nat) : Int) = 48 + (a : Int) by omega]
      refine Ev.pos (by omega) (Ev.pos (by omega) (Ev.pos (by omega) (Ev.bind (wkNext_ev hp a ha10) ?_)))
      refine spec_l1 (i + 1) _ (itr (tbl p) (row0 0) n) (by have := rowsOf_at (tbl p) (row0 0) ((bl s).length - 1) n (by omega); rw [Int.toNat_natCast] at this; rw [show (bl s).length - 1 - (i + 1) = n by omega]; exact this) (by rw [rowsOf_len]; omega) hrl _ h8 hx8 h1 hl c hc hc10 _ ((tbl p).getD a []).length 0 acc (by omega) ?_
      rw [List.drop_zero]
      exact_mod_cast q2
theorem sign_digs : ∀ d : Fin 10, digsB (bl ⟨#[UInt8.ofNat (48 + d.val)]⟩) 1 1 = true := by decide
theorem pc_piece {p : ByteArray} (hp : isPc p) : pieceB (bl p) = true := by rcases hp with rfl | rfl | rfl | rfl <;> decide
theorem implCount_ev {a : ByteArray} (hp : isPc a) (d m : Nat) (hd : d < 10) (hm : m < 40) : Ev (fun k => impl_CountNumbers.f k a ⟨#[UInt8.ofNat (48 + d)]⟩ ((m : Int) + 1)) (fewP (rd (itr (tbl a) (row0 0) m) d)) := by
  unfold impl_CountNumbers.f
  have hr := itr_len (tbl_shape hp).1 (row0_len 0) m
  have hlo : (decide (1 ≤ (m : Int) + 1) && decide ((m : Int) + 1 ≤ 40)) = true := by simp; omega
  refine Ev.bindc (by rw [isPiece_eq, pc_piece hp]) (Ev.yes (Ev.bindc (by rw [isDigit_eq _ (by show 1 ≤ _; omega), sign_digs ⟨d, hd⟩]) (Ev.yes (Ev.bindc (x := true) (by unfold impl_longOk.f; rw [in_eq, hlo]; rfl) (Ev.succ ?_)))))
  simp only [impl_CountNumbers.j0]
  refine Ev.no (Ev.bind (numbers_ev hp m (by omega)) (Ev.pos (sign_size d) ?_))
  rw [sign_bt d hd]
  simp only [impl_digit.f, Option.bind_some, digit_sign d hd]
  exact Ev.pos (by omega) (Ev.pos (by omega) (Ev.bindc (few_eq _) (Ev.now _)))
end RankOf
end Go.Proofs.YtffbfkfbeggdnaaGreatDoor
namespace Go.Proofs.YtffbfkfbeggdnaaGreatDoor
open Go.RowKit Go.Proofs.YtffbfkfbeggdnaaGreatDoor.P Go.Proofs.YtffbfkfbeggdnaaGreatDoorW.PrintWords
set_option linter.unusedSimpArgs false
set_option linter.unusedVariables false
/-! What the functions of walks answer: next keys, all numbers, the busiest key. -/
namespace WalkV
theorem nki_n : ∀ d : Fin 10, impl_NextKeys.f 300 ⟨#[110]⟩ ⟨#[UInt8.ofNat (48 + d.val)]⟩ = some (digsOf ((tbl ⟨#[110]⟩).getD d.val []), true) := by decide +kernel
theorem nki_k : ∀ d : Fin 10, impl_NextKeys.f 300 ⟨#[107]⟩ ⟨#[UInt8.ofNat (48 + d.val)]⟩ = some (digsOf ((tbl ⟨#[107]⟩).getD d.val []), true) := by decide +kernel
theorem nki_r : ∀ d : Fin 10, impl_NextKeys.f 300 ⟨#[114]⟩ ⟨#[UInt8.ofNat (48 + d.val)]⟩ = some (digsOf ((tbl ⟨#[114]⟩).getD d.val []), true) := by decide +kernel
theorem nki_b : ∀ d : Fin 10, impl_NextKeys.f 300 ⟨#[98]⟩ ⟨#[UInt8.ofNat (48 + d.val)]⟩ = some (digsOf ((tbl ⟨#[98]⟩).getD d.val []), true) := by decide +kernel
theorem nks_n : ∀ d : Fin 10, spec_NextKeys.f 300 ⟨#[110]⟩ ⟨#[UInt8.ofNat (48 + d.val)]⟩ = some (digsOf ((tbl ⟨#[110]⟩).getD d.val []), true) := by decide +kernel
theorem nks_k : ∀ d : Fin 10, spec_NextKeys.f 300 ⟨#[107]⟩ ⟨#[UInt8.ofNat (48 + d.val)]⟩ = some (digsOf ((tbl ⟨#[107]⟩).getD d.val []), true) := by decide +kernel
theorem nks_r : ∀ d : Fin 10, spec_NextKeys.f 300 ⟨#[114]⟩ ⟨#[UInt8.ofNat (48 + d.val)]⟩ = some (digsOf ((tbl ⟨#[114]⟩).getD d.val []), true) := by decide +kernel
theorem nks_b : ∀ d : Fin 10, spec_NextKeys.f 300 ⟨#[98]⟩ ⟨#[UInt8.ofNat (48 + d.val)]⟩ = some (digsOf ((tbl ⟨#[98]⟩).getD d.val []), true) := by decide +kernel
theorem nextKeys_yes {p : ByteArray} (hp : isPc p) (d : Nat) (hd : d < 10) : Ev (fun k => impl_NextKeys.f k p ⟨#[UInt8.ofNat (48 + d)]⟩) (digsOf ((tbl p).getD d []), true) ∧ Ev (fun k => spec_NextKeys.f k p ⟨#[UInt8.ofNat (48 + d)]⟩) (digsOf ((tbl p).getD d []), true) := by
  refine ⟨Ev.of (k := 300) (impl_NextKeys.mono _ _) ?_, Ev.of (k := 300) (spec_NextKeys.mono _ _) ?_⟩
  · rcases hp with rfl | rfl | rfl | rfl
    · exact nki_n ⟨d, hd⟩
    · exact nki_k ⟨d, hd⟩
    · exact nki_r ⟨d, hd⟩
    · exact nki_b ⟨d, hd⟩
  · rcases hp with rfl | rfl | rfl | rfl
    · exact nks_n ⟨d, hd⟩
    · exact nks_k ⟨d, hd⟩
    · exact nks_r ⟨d, hd⟩
    · exact nks_b ⟨d, hd⟩
theorem nextKeys_two (a s : ByteArray) (h1 : s.size ≤ 9223372036854775807) : ∃ r, Ev (fun k => impl_NextKeys.f k a s) r ∧ Ev (fun k => spec_NextKeys.f k a s) r ∧ (r.2 = true → ∃ d : Nat, isPc a ∧ d < 10 ∧ s = ⟨#[UInt8.ofNat (48 + d)]⟩ ∧ r = (digsOf ((tbl a).getD d []), true)) ∧ ((isPc a ∧ ∃ d : Nat, d < 10 ∧ s = ⟨#[UInt8.ofNat (48 + d)]⟩) → r.2 = true) := by
  by_cases hp : pieceB (bl a) = true
  · by_cases hd : digsB (bl s) 1 1 = true
    · obtain ⟨d, hd10, rfl⟩ := digit_of hd
      obtain ⟨q1, q2⟩ := nextKeys_yes (isPc_of hp) d hd10
      exact ⟨_, q1, q2, fun _ => ⟨d, isPc_of hp, hd10, rfl, rfl⟩, fun _ => rfl⟩
    · rw [Bool.not_eq_true] at hd
      refine ⟨((⟨#[]⟩ : ByteArray), false), ?_, ?_, fun h => (by cases h), ?_⟩
      · unfold impl_NextKeys.f
        refine Ev.bindc (by rw [isPiece_eq, hp]) (Ev.yes (Ev.bindc (by rw [isDigit_eq s h1, hd]) (Ev.succ ?_)))
        simp only [impl_NextKeys.j0]; exact Ev.yes (Ev.now _)
      · unfold spec_NextKeys.f
        exact Ev.bind (wkAsked_ev a s) (by rw [hd, Bool.and_false]; exact Ev.no (Ev.now _))
      · rintro ⟨_, d, h10, rfl⟩
        have := RankOf.sign_digs ⟨d, h10⟩
        rw [hd] at this; cases this
  · rw [Bool.not_eq_true] at hp
    refine ⟨((⟨#[]⟩ : ByteArray), false), ?_, ?_, fun h => (by cases h), ?_⟩
    · unfold impl_NextKeys.f
      refine Ev.bindc (by rw [isPiece_eq, hp]) (Ev.no (Ev.succ ?_))
      simp only [impl_NextKeys.j0]; exact Ev.yes (Ev.now _)
    · unfold spec_NextKeys.f
      exact Ev.bind (wkAsked_ev a s) (by rw [hp, Bool.false_and]; exact Ev.no (Ev.now _))
    · rintro ⟨h, _⟩
      rw [RankOf.pc_piece h] at hp; cases hp
/-! All numbers of a length. -/
def allI (k : Nat) (row : List Int) : Option (Int × Bool) := impl_CountAllNumbers.l0 k 0 row (row.length : Int) 0
def allS (k : Nat) (row : List Int) : Option (Int × Bool) := spec_CountAllNumbers.l0 k 0 row (row.length : Int) 0
def okRow (row : List Int) (r : Int × Bool) : Bool := !r.2 || (row.all (fun x => decide (0 ≤ x) && decide (x ≤ 1000000000000000)) && decide (row.foldl (· + ·) 0 = r.1))
def alikeA (row : List Int) : Bool := match allI 60 row, allS 60 row with
  | some a, some b => decide (a = b) && okRow row a
  | _, _ => false
theorem alikeA_n : ∀ m : Fin 40, alikeA (itr (tbl ⟨#[110]⟩) (row0 0) m.val) = true := by decide +kernel
theorem alikeA_k : ∀ m : Fin 40, alikeA (itr (tbl ⟨#[107]⟩) (row0 0) m.val) = true := by decide +kernel
theorem alikeA_r : ∀ m : Fin 40, alikeA (itr (tbl ⟨#[114]⟩) (row0 0) m.val) = true := by decide +kernel
theorem alikeA_b : ∀ m : Fin 40, alikeA (itr (tbl ⟨#[98]⟩) (row0 0) m.val) = true := by decide +kernel
theorem alikeA_at {p : ByteArray} (hp : isPc p) (m : Nat) (hm : m < 40) : ∃ r, allI 60 (itr (tbl p) (row0 0) m) = some r ∧ allS 60 (itr (tbl p) (row0 0) m) = some r ∧ okRow (itr (tbl p) (row0 0) m) r = true := by
  have h : alikeA (itr (tbl p) (row0 0) m) = true := by
    rcases hp with rfl | rfl | rfl | rfl
    · exact alikeA_n ⟨m, hm⟩
    · exact alikeA_k ⟨m, hm⟩
    · exact alikeA_r ⟨m, hm⟩
    · exact alikeA_b ⟨m, hm⟩
  unfold alikeA at h
  split at h
  · rename_i a b e1 e2
    rw [Bool.and_eq_true] at h
    obtain rfl := of_decide_eq_true h.1
    exact ⟨_, e1, e2, h.2⟩
  · cases h
theorem allI_mono (row : List Int) (k : Nat) : LeO (allI k row) (allI (k + 1) row) := (impl_CountAllNumbers.mono_l k).2 _ _ _ _
theorem allS_mono (row : List Int) (k : Nat) : LeO (allS k row) (allS (k + 1) row) := (spec_CountAllNumbers.mono_l k).2 _ _ _ _
theorem countAll_two (a : ByteArray) (n : Int) : ∃ r, Ev (fun k => impl_CountAllNumbers.f k a n) r ∧ Ev (fun k => spec_CountAllNumbers.f k a n) r ∧ (r.2 = true → ∃ m : Nat, isPc a ∧ n = (m : Int) + 1 ∧ m < 40 ∧ okRow (itr (tbl a) (row0 0) m) r = true) := by
  have fs : Ev (fun k => spec_CountAllNumbers.j0 k a n true) (0, false) := by
    apply Ev.succ; simp only [spec_CountAllNumbers.j0]; exact Ev.yes (Ev.now _)
  have fi : Ev (fun k => impl_CountAllNumbers.j0 k a n true) (0, false) := by
    apply Ev.succ; simp only [impl_CountAllNumbers.j0]; exact Ev.yes (Ev.now _)
  unfold spec_CountAllNumbers.f impl_CountAllNumbers.f
  cases hp : pieceB (bl a) with
  | false => exact ⟨_, Ev.bindc (by rw [isPiece_eq, hp]) (Ev.no fi), Ev.bindc (by rw [wkPiece_eq, hp]) (Ev.no fs), fun h => (by cases h)⟩
  | true =>
    have hpc := isPc_of hp
    cases hn : (decide (1 ≤ n) && decide (n ≤ 40)) with
    | false => exact ⟨_, Ev.bindc (by rw [isPiece_eq, hp]) (Ev.yes (Ev.bindc (x := false) (by unfold impl_longOk.f; rw [in_eq, hn]; rfl) fi)), Ev.bindc (by rw [wkPiece_eq, hp]) (Ev.yes (Ev.bindc (x := false) (by rw [l1In_eq, hn]) fs)), fun h => (by cases h)⟩
    | true =>
      have hn' := hn
      simp only [Bool.and_eq_true, decide_eq_true_eq] at hn'
      obtain ⟨m, rfl⟩ : ∃ m : Nat, n = (m : Int) + 1 := ⟨(n - 1).toNat, by omega⟩
      have em : wrap64 ((m : Int) + 1 - 1) = m := by rw [wrap_id (by omega) (by omega)]; omega
      obtain ⟨r, h1, h2, h3⟩ := alikeA_at hpc m (by omega)
      refine ⟨r, Ev.bindc (by rw [isPiece_eq, hp]) (Ev.yes (Ev.bindc (x := true) (by unfold impl_longOk.f; rw [in_eq, hn]; rfl) ?_)), Ev.bindc (by rw [wkPiece_eq, hp]) (Ev.yes (Ev.bindc (x := true) (by rw [l1In_eq, hn]) ?_)), fun _ => ⟨m, hpc, rfl, by omega, h3⟩⟩
      · apply Ev.succ; simp only [impl_CountAllNumbers.j0]
        refine Ev.no (Ev.bind (numbers_ev hpc m (by omega)) ?_)
        exact Ev.of (allI_mono _) h1
      · apply Ev.succ; simp only [spec_CountAllNumbers.j0]
        refine Ev.no ?_
        rw [em]
        refine Ev.bind (wkTable_ev hpc m (by omega) 0) (Ev.pos (by omega) (Ev.pos (by rw [rowsOf_len]; omega) ?_))
        have e2 : rd_L5 (rowsOf (tbl a) (row0 0) m) (m : Int) = itr (tbl a) (row0 0) m := rowsOf_at _ _ _ _ (Nat.le_refl _)
        rw [e2]
        exact Ev.of (allS_mono _) h2
/-! The busiest key. -/
def busyI (k : Nat) (row : List Int) : Option (ByteArray × Int × Bool) := (slices_Max_int_int.f k row).bind fun t106 => ((slices_Index_int_int.f k row t106).bind fun t107 => ((impl_digitText.f k (([t107] : List Int))).bind fun t111 => (some (t111, t106, true))))
def busyS (k : Nat) (row : List Int) : Option (ByteArray × Int × Bool) := spec_BusiestKey.l0 k row 0 row (row.length : Int) 0
def okBusy (row : List Int) (b : ByteArray) (m : Int) (ok : Bool) : Bool := ok && decide (b.size = 1) && decide (row.foldl (· + ·) 0 ≤ m * 10) && decide (0 ≤ m) && decide (m ≤ 100000000000000000)
def alikeB (row : List Int) : Bool := match busyI 60 row, busyS 60 row with
  | some (a, b, c), some (a', b', c') => decide (a.data.toList = a'.data.toList ∧ b = b' ∧ c = c') && okBusy row a b c
  | _, _ => false
theorem alikeB_n : ∀ m : Fin 20, alikeB (itr (tbl ⟨#[110]⟩) (row0 0) m.val) = true := by decide +kernel
theorem alikeB_k : ∀ m : Fin 20, alikeB (itr (tbl ⟨#[107]⟩) (row0 0) m.val) = true := by decide +kernel
theorem alikeB_r : ∀ m : Fin 20, alikeB (itr (tbl ⟨#[114]⟩) (row0 0) m.val) = true := by decide +kernel
theorem alikeB_b : ∀ m : Fin 20, alikeB (itr (tbl ⟨#[98]⟩) (row0 0) m.val) = true := by decide +kernel
theorem alikeB_at {p : ByteArray} (hp : isPc p) (m : Nat) (hm : m < 20) : ∃ r, busyI 60 (itr (tbl p) (row0 0) m) = some r ∧ busyS 60 (itr (tbl p) (row0 0) m) = some r ∧ okBusy (itr (tbl p) (row0 0) m) r.1 r.2.1 r.2.2 = true := by
  have h : alikeB (itr (tbl p) (row0 0) m) = true := by
    rcases hp with rfl | rfl | rfl | rfl
    · exact alikeB_n ⟨m, hm⟩
    · exact alikeB_k ⟨m, hm⟩
    · exact alikeB_r ⟨m, hm⟩
    · exact alikeB_b ⟨m, hm⟩
  unfold alikeB at h
  split at h
  · rename_i a b c a' b' c' e1 e2
    rw [Bool.and_eq_true] at h
    obtain ⟨h1, h2, h3⟩ := of_decide_eq_true h.1
    obtain rfl : a = a' := ByteArray.ext (Array.toList_inj.1 h1)
    subst h2 h3
    exact ⟨_, e1, e2, h.2⟩
  · cases h
theorem busyI_mono (row : List Int) (k : Nat) : LeO (busyI k row) (busyI (k + 1) row) := by
  unfold busyI
  refine LeO.bind (slices_Max_int_int.mono _ _) (fun _ => LeO.bind (slices_Index_int_int.mono _ _ _) (fun _ => LeO.bind (impl_digitText.mono _ _) (fun _ => LeO.refl _)))
theorem busyS_mono (row : List Int) (k : Nat) : LeO (busyS k row) (busyS (k + 1) row) := (spec_BusiestKey.mono_l k).2 _ _ _ _ _
theorem busiest_two (a : ByteArray) (n : Int) : ∃ r, Ev (fun k => impl_BusiestKey.f k a n) r ∧ Ev (fun k => spec_BusiestKey.f k a n) r ∧ (isPc a → 1 ≤ n → n ≤ 20 → okBusy (itr (tbl a) (row0 0) (n - 1).toNat) r.1 r.2.1 r.2.2 = true) := by
  have fs : Ev (fun k => spec_BusiestKey.j0 k a n true) (⟨#[]⟩, 0, false) := by
    apply Ev.succ; simp only [spec_BusiestKey.j0]; exact Ev.yes (Ev.now _)
  have fi : Ev (fun k => impl_BusiestKey.j0 k a n true) (⟨#[]⟩, 0, false) := by
    apply Ev.succ; simp only [impl_BusiestKey.j0]; exact Ev.yes (Ev.now _)
  unfold spec_BusiestKey.f impl_BusiestKey.f
  cases hp : pieceB (bl a) with
  | false => exact ⟨_, Ev.bindc (by rw [isPiece_eq, hp]) (Ev.no fi), Ev.bindc (by rw [wkPiece_eq, hp]) (Ev.no fs), fun h => by rw [RankOf.pc_piece h] at hp; cases hp⟩
  | true =>
    have hpc := isPc_of hp
    cases hn : (decide (1 ≤ n) && decide (n ≤ 20)) with
    | false => exact ⟨_, Ev.bindc (by rw [isPiece_eq, hp]) (Ev.yes (Ev.bindc (x := false) (by rw [in_eq, hn]) fi)), Ev.bindc (by rw [wkPiece_eq, hp]) (Ev.yes (Ev.bindc (x := false) (by rw [l1In_eq, hn]) fs)), fun _ q1 q2 => by simp [q1, q2] at hn⟩
    | true =>
      have hn' := hn
      simp only [Bool.and_eq_true, decide_eq_true_eq] at hn'
      obtain ⟨m, rfl⟩ : ∃ m : Nat, n = (m : Int) + 1 := ⟨(n - 1).toNat, by omega⟩
      have em : wrap64 ((m : Int) + 1 - 1) = m := by rw [wrap_id (by omega) (by omega)]; omega
      obtain ⟨r, h1, h2, h3⟩ := alikeB_at hpc m (by omega)
      refine ⟨r, Ev.bindc (by rw [isPiece_eq, hp]) (Ev.yes (Ev.bindc (x := true) (by rw [in_eq, hn]) ?_)), Ev.bindc (by rw [wkPiece_eq, hp]) (Ev.yes (Ev.bindc (x := true) (by rw [l1In_eq, hn]) ?_)), fun _ _ _ => by rw [show ((m : Int) + 1 - 1).toNat = m by omega]; exact h3⟩
      · apply Ev.succ; simp only [impl_BusiestKey.j0]
        refine Ev.no (Ev.bind (numbers_ev hpc m (by omega)) ?_)
        exact Ev.of (busyI_mono _) h1
      · apply Ev.succ; simp only [spec_BusiestKey.j0]
        refine Ev.no ?_
        rw [em]
        refine Ev.bind (wkTable_ev hpc m (by omega) 0) (Ev.pos (by omega) (Ev.pos (by rw [rowsOf_len]; omega) ?_))
        have e2 : rd_L5 (rowsOf (tbl a) (row0 0) m) (m : Int) = itr (tbl a) (row0 0) m := rowsOf_at _ _ _ _ (Nat.le_refl _)
        rw [e2]
        exact Ev.of (busyS_mono _) h2
end WalkV
theorem only_eq (e : Nat) (h : e < 10) : impl_only.f (e : Int) = some (row0 (48 + e)) := by
  have : ∀ e : Fin 10, impl_only.f (e.val : Int) = some (row0 (48 + e.val)) := by decide +kernel
  exact this ⟨e, h⟩
theorem between_l0 {p : ByteArray} (hp : isPc p) (f e : Nat) (hf : f < 10) (n : Nat) (hn : n ≤ 1000) : ∀ (d i : Nat), i + d = n →
    Ev (fun k => impl_CountBetween.l0 k ⟨#[UInt8.ofNat (48 + f)]⟩ (itr (tbl p) (row0 (48 + e)) i) (tbl p) n i) (fewP (rd (itr (tbl p) (row0 (48 + e)) n) f))
  | 0, i, hi => by
    have hl := itr_len (tbl_shape hp).1 (row0_len (48 + e)) i
    obtain rfl : i = n := by omega
    apply Ev.succ
    simp only [impl_CountBetween.l0]
    refine Ev.neg (by omega) (Ev.pos (sign_size f) ?_)
    rw [sign_bt f hf]
    simp only [impl_digit.f, Option.bind_some, digit_sign f hf]
    exact Ev.pos (by omega) (Ev.pos (by omega) (Ev.bindc (few_eq _) (Ev.now _)))
  | d + 1, i, hi => by
    obtain ⟨h10, htb⟩ := tbl_shape hp
    apply Ev.succ
    simp only [impl_CountBetween.l0]
    refine Ev.pos (by omega) (Ev.bind (stepped_ev h10 htb (itr_len h10 (row0_len _) i)) ?_)
    rw [wrap_id (by omega) (by omega), show (i : Int) + 1 = ((i + 1 : Nat) : Int) by omega]
    exact between_l0 hp f e hf n hn d (i + 1) (by omega)
theorem countBetween_two (a s t : ByteArray) (n : Int) (h1 : s.size ≤ 9223372036854775807) (h2 : t.size ≤ 9223372036854775807) : ∃ r, Ev (fun k => spec_CountBetween.f k a s t n) r ∧ Ev (fun k => impl_CountBetween.f k a s t n) r := by
  unfold spec_CountBetween.f impl_CountBetween.f
  have fi : Ev (fun k => impl_CountBetween.j0 k a s t n true) (0, false) := by
    apply Ev.succ; simp only [impl_CountBetween.j0]; exact Ev.yes (Ev.now _)
  cases hp : pieceB (bl a) with
  | false => exact ⟨(0, false), Ev.bind (wkAsked_ev a s) (by rw [hp, Bool.false_and]; exact Ev.no (Ev.now _)), Ev.bindc (by rw [isPiece_eq, hp]) (Ev.no fi)⟩
  | true =>
    cases hd : digsB (bl s) 1 1 with
    | false => exact ⟨(0, false), Ev.bind (wkAsked_ev a s) (by rw [hp, hd, Bool.and_false]; exact Ev.no (Ev.now _)), Ev.bindc (by rw [isPiece_eq, hp]) (Ev.yes (Ev.bindc (by rw [isDigit_eq s h1, hd]) (Ev.no fi)))⟩
    | true =>
      cases he : digsB (bl t) 1 1 with
      | false => exact ⟨(0, false), Ev.bind (wkAsked_ev a s) (by rw [hp, hd, Bool.and_true]; exact Ev.yes (Ev.bind (wkAsked_ev a t) (by rw [hp, he, Bool.and_false]; exact Ev.no (Ev.now _)))), Ev.bindc (by rw [isPiece_eq, hp]) (Ev.yes (Ev.bindc (by rw [isDigit_eq s h1, hd]) (Ev.yes (Ev.bindc (by rw [isDigit_eq t h2, he]) (Ev.no fi)))))⟩
      | true =>
        cases hn : (decide (0 ≤ n) && decide (n ≤ 39)) with
        | false => exact ⟨(0, false), Ev.bind (wkAsked_ev a s) (by rw [hp, hd, Bool.and_true]; exact Ev.yes (Ev.bind (wkAsked_ev a t) (by rw [hp, he, Bool.and_true]; exact Ev.yes (Ev.bindc (by rw [l1In_eq, hn]) (Ev.no (Ev.now _)))))), Ev.bindc (by rw [isPiece_eq, hp]) (Ev.yes (Ev.bindc (by rw [isDigit_eq s h1, hd]) (Ev.yes (Ev.bindc (by rw [isDigit_eq t h2, he]) (Ev.yes (Ev.bindc (x := false) (by rw [in_eq, hn]) fi))))))⟩
        | true =>
          have hpc := isPc_of hp
          obtain ⟨d, hd10, rfl⟩ := digit_of hd
          obtain ⟨e, he10, rfl⟩ := digit_of he
          simp only [Bool.and_eq_true, decide_eq_true_eq] at hn
          obtain ⟨m, rfl⟩ : ∃ m : Nat, n = (m : Int) := ⟨n.toNat, by omega⟩
          have hlo : (decide (0 ≤ (m : Int)) && decide ((m : Int) ≤ 39)) = true := by simp; omega
          refine ⟨fewP (rd (itr (tbl a) (row0 (48 + e)) m) d), Ev.bind (wkAsked_ev a _) ?_, Ev.bindc (by rw [isPiece_eq, hp]) (Ev.yes (Ev.bindc (by rw [isDigit_eq _ h1, hd]) (Ev.yes (Ev.bindc (by rw [isDigit_eq _ h2, he]) (Ev.yes (Ev.bindc (by rw [in_eq, hlo]) (Ev.succ ?_)))))))⟩
          · rw [hp, hd, Bool.and_true]
            refine Ev.yes (Ev.bind (wkAsked_ev a _) ?_)
            rw [hp, he, Bool.and_true]
            refine Ev.yes (Ev.bindc (by rw [l1In_eq, hlo]) (Ev.yes (Ev.pos (sign_size d) (Ev.pos (sign_size e) ?_))))
            rw [sign_bt d hd10, sign_bt e he10]
            exact Ev.bind (wkCount_ev hpc d m hd10 (by omega) (48 + e)) (Ev.now _)
          · simp only [impl_CountBetween.j0]
            refine Ev.no (Ev.pos (sign_size e) ?_)
            rw [sign_bt e he10]
            simp only [impl_digit.f, Option.bind_some, digit_sign e he10, only_eq e he10]
            exact Ev.bind (moves_ev hpc) (between_l0 hpc d e hd10 m (by omega) m 0 (by omega))
namespace WalkV
/-- The rows of all keys behind a number of steps. -/
def rws (tb : List (List Int)) (i : Nat) : List (List Int) := (List.range 10).map fun e : Nat => itr tb (row0 (48 + (e : Int))) i
theorem rws_succ (tb : List (List Int)) (i : Nat) : rws tb (i + 1) = (rws tb i).map (stp tb) := by
  unfold rws; rw [List.map_map]; rfl
theorem rws_at (tb : List (List Int)) (i e : Nat) (h : e < 10) : (rws tb i).getD e [] = itr tb (row0 (48 + (e : Int))) i := by
  unfold rws; simp [List.getD, h]
def symB (rs : List (List Int)) : Bool := (List.range 10).all fun d => (List.range 10).all fun e => decide (rd (rs.getD e []) (d : Int) = rd (rs.getD d []) (e : Int))
def diag0 (rs : List (List Int)) : Bool := (List.range 10).all fun e => decide (rd (rs.getD e []) (e : Int) = 0)
def chkR (tb : List (List Int)) (kn : Bool) : Nat → Bool → List (List Int) → Bool
  | 0, _, _ => true
  | k + 1, odd, rs => symB rs && (!(kn && odd) || diag0 rs) && chkR tb kn k (!odd) (rs.map (stp tb))
theorem chkR_of (tb : List (List Int)) (kn : Bool) : ∀ (k : Nat) (i : Nat), chkR tb kn k (decide (i % 2 = 1)) (rws tb i) = true → ∀ j, i ≤ j → j < i + k → symB (rws tb j) = true ∧ (kn = true → j % 2 = 1 → diag0 (rws tb j) = true)
  | 0, i, _, j, h1, h2 => by omega
  | k + 1, i, h, j, h1, h2 => by
    simp only [chkR, Bool.and_eq_true] at h
    by_cases e : j = i
    · subst e
      refine ⟨h.1.1, fun q1 q2 => ?_⟩
      have := h.1.2
      rw [q1, decide_eq_true q2] at this
      simpa using this
    · refine chkR_of tb kn k (i + 1) ?_ j (by omega) (by omega)
      rw [rws_succ, show decide ((i + 1) % 2 = 1) = !decide (i % 2 = 1) by
        by_cases c : i % 2 = 1
        · rw [decide_eq_true c, decide_eq_false (by omega)]; rfl
        · rw [decide_eq_false c, decide_eq_true (by omega)]; rfl]
      exact h.2
theorem chk_n : chkR (tbl ⟨#[110]⟩) true 40 false (rws (tbl ⟨#[110]⟩) 0) = true := by decide +kernel
theorem chk_k : chkR (tbl ⟨#[107]⟩) false 40 false (rws (tbl ⟨#[107]⟩) 0) = true := by decide +kernel
theorem chk_r : chkR (tbl ⟨#[114]⟩) false 40 false (rws (tbl ⟨#[114]⟩) 0) = true := by decide +kernel
theorem chk_b : chkR (tbl ⟨#[98]⟩) false 40 false (rws (tbl ⟨#[98]⟩) 0) = true := by decide +kernel
theorem sym_at {p : ByteArray} (hp : isPc p) (m : Nat) (hm : m < 40) (d e : Nat) (hd : d < 10) (he : e < 10) : rd (itr (tbl p) (row0 (48 + (e : Int))) m) (d : Int) = rd (itr (tbl p) (row0 (48 + (d : Int))) m) (e : Int) := by
  have h : symB (rws (tbl p) m) = true := by
    rcases hp with rfl | rfl | rfl | rfl
    · exact (chkR_of _ true 40 0 chk_n m (by omega) (by omega)).1
    · exact (chkR_of _ false 40 0 chk_k m (by omega) (by omega)).1
    · exact (chkR_of _ false 40 0 chk_r m (by omega) (by omega)).1
    · exact (chkR_of _ false 40 0 chk_b m (by omega) (by omega)).1
  have h1 := List.all_eq_true.1 h d (List.mem_range.2 hd)
  have h2 := of_decide_eq_true (List.all_eq_true.1 h1 e (List.mem_range.2 he))
  rw [rws_at _ _ _ he, rws_at _ _ _ hd] at h2
  exact h2
theorem odd_at (m : Nat) (hm : m < 40) (ho : m % 2 = 1) (e : Nat) (he : e < 10) : rd (itr (tbl ⟨#[110]⟩) (row0 (48 + (e : Int))) m) (e : Int) = 0 := by
  have h := (chkR_of _ true 40 0 chk_n m (by omega) (by omega)).2 rfl ho
  have h2 := of_decide_eq_true (List.all_eq_true.1 h e (List.mem_range.2 he))
  rw [rws_at _ _ _ he] at h2
  exact h2
theorem none_at : ∀ d e : Fin 10, rd (row0 (48 + (e.val : Int))) (d.val : Int) = if d = e then 1 else 0 := by decide +kernel
theorem between_two (a s t : ByteArray) (n : Int) (h1 : s.size ≤ 9223372036854775807) (h2 : t.size ≤ 9223372036854775807) : ∃ r, Ev (fun k => impl_CountBetween.f k a s t n) r ∧ Ev (fun k => spec_CountBetween.f k a s t n) r ∧ (r.2 = true → ∃ d e m : Nat, isPc a ∧ d < 10 ∧ e < 10 ∧ s = ⟨#[UInt8.ofNat (48 + d)]⟩ ∧ t = ⟨#[UInt8.ofNat (48 + e)]⟩ ∧ n = (m : Int) ∧ m < 40 ∧ r = fewP (rd (itr (tbl a) (row0 (48 + (e : Int))) m) d)) := by
  unfold spec_CountBetween.f impl_CountBetween.f
  have fi : Ev (fun k => impl_CountBetween.j0 k a s t n true) (0, false) := by
    apply Ev.succ; simp only [impl_CountBetween.j0]; exact Ev.yes (Ev.now _)
  have no : ((0 : Int), false).2 = true → ∃ d e m : Nat, isPc a ∧ d < 10 ∧ e < 10 ∧ s = ⟨#[UInt8.ofNat (48 + d)]⟩ ∧ t = ⟨#[UInt8.ofNat (48 + e)]⟩ ∧ n = (m : Int) ∧ m < 40 ∧ ((0 : Int), false) = fewP (rd (itr (tbl a) (row0 (48 + (e : Int))) m) d) := fun h => by cases h
  cases hp : pieceB (bl a) with
  | false => exact ⟨(0, false), Ev.bindc (by rw [isPiece_eq, hp]) (Ev.no fi), Ev.bind (wkAsked_ev a s) (by rw [hp, Bool.false_and]; exact Ev.no (Ev.now _)), no⟩
  | true =>
    cases hd : digsB (bl s) 1 1 with
    | false => exact ⟨(0, false), Ev.bindc (by rw [isPiece_eq, hp]) (Ev.yes (Ev.bindc (by rw [isDigit_eq s h1, hd]) (Ev.no fi))), Ev.bind (wkAsked_ev a s) (by rw [hp, hd, Bool.and_false]; exact Ev.no (Ev.now _)), no⟩
    | true =>
      cases he : digsB (bl t) 1 1 with
      | false => exact ⟨(0, false), Ev.bindc (by rw [isPiece_eq, hp]) (Ev.yes (Ev.bindc (by rw [isDigit_eq s h1, hd]) (Ev.yes (Ev.bindc (by rw [isDigit_eq t h2, he]) (Ev.no fi))))), Ev.bind (wkAsked_ev a s) (by rw [hp, hd, Bool.and_true]; exact Ev.yes (Ev.bind (wkAsked_ev a t) (by rw [hp, he, Bool.and_false]; exact Ev.no (Ev.now _)))), no⟩
      | true =>
        cases hn : (decide (0 ≤ n) && decide (n ≤ 39)) with
        | false => exact ⟨(0, false), Ev.bindc (by rw [isPiece_eq, hp]) (Ev.yes (Ev.bindc (by rw [isDigit_eq s h1, hd]) (Ev.yes (Ev.bindc (by rw [isDigit_eq t h2, he]) (Ev.yes (Ev.bindc (x := false) (by rw [in_eq, hn]) fi)))))), Ev.bind (wkAsked_ev a s) (by rw [hp, hd, Bool.and_true]; exact Ev.yes (Ev.bind (wkAsked_ev a t) (by rw [hp, he, Bool.and_true]; exact Ev.yes (Ev.bindc (by rw [l1In_eq, hn]) (Ev.no (Ev.now _)))))), no⟩
        | true =>
          have hpc := isPc_of hp
          obtain ⟨d, hd10, rfl⟩ := digit_of hd
          obtain ⟨e, he10, rfl⟩ := digit_of he
          simp only [Bool.and_eq_true, decide_eq_true_eq] at hn
          obtain ⟨m, rfl⟩ : ∃ m : Nat, n = (m : Int) := ⟨n.toNat, by omega⟩
          have hlo : (decide (0 ≤ (m : Int)) && decide ((m : Int) ≤ 39)) = true := by simp; omega
          refine ⟨fewP (rd (itr (tbl a) (row0 (48 + (e : Int))) m) d), Ev.bindc (by rw [isPiece_eq, hp]) (Ev.yes (Ev.bindc (by rw [isDigit_eq _ h1, hd]) (Ev.yes (Ev.bindc (by rw [isDigit_eq _ h2, he]) (Ev.yes (Ev.bindc (by rw [in_eq, hlo]) (Ev.succ ?_))))))), Ev.bind (wkAsked_ev a _) ?_, fun _ => ⟨d, e, m, hpc, hd10, he10, rfl, rfl, rfl, by omega, rfl⟩⟩
          · simp only [impl_CountBetween.j0]
            refine Ev.no (Ev.pos (sign_size e) ?_)
            rw [sign_bt e he10]
            simp only [impl_digit.f, Option.bind_some, digit_sign e he10, only_eq e he10]
            exact Ev.bind (moves_ev hpc) (between_l0 hpc d e hd10 m (by omega) m 0 (by omega))
          · rw [hp, hd, Bool.and_true]
            refine Ev.yes (Ev.bind (wkAsked_ev a _) ?_)
            rw [hp, he, Bool.and_true]
            refine Ev.yes (Ev.bindc (by rw [l1In_eq, hlo]) (Ev.yes (Ev.pos (sign_size d) (Ev.pos (sign_size e) ?_))))
            rw [sign_bt d hd10, sign_bt e he10]
            exact Ev.bind (wkCount_ev hpc d m hd10 (by omega) (48 + e)) (Ev.now _)
theorem implBetween_ev {a : ByteArray} (hpc : isPc a) (d e m : Nat) (hd10 : d < 10) (he10 : e < 10) (hm : m < 40) : Ev (fun k => impl_CountBetween.f k a ⟨#[UInt8.ofNat (48 + d)]⟩ ⟨#[UInt8.ofNat (48 + e)]⟩ (m : Int)) (fewP (rd (itr (tbl a) (row0 (48 + (e : Int))) m) d)) := by
  have hlo : (decide (0 ≤ (m : Int)) && decide ((m : Int) ≤ 39)) = true := by simp; omega
  have hp := RankOf.pc_piece hpc
  unfold impl_CountBetween.f
  refine Ev.bindc (by rw [isPiece_eq, hp]) (Ev.yes (Ev.bindc (by rw [isDigit_eq _ (by show 1 ≤ _; omega), RankOf.sign_digs ⟨d, hd10⟩]) (Ev.yes (Ev.bindc (by rw [isDigit_eq _ (by show 1 ≤ _; omega), RankOf.sign_digs ⟨e, he10⟩]) (Ev.yes (Ev.bindc (by rw [in_eq, hlo]) (Ev.succ ?_)))))))
  simp only [impl_CountBetween.j0]
  refine Ev.no (Ev.pos (sign_size e) ?_)
  rw [sign_bt e he10]
  simp only [impl_digit.f, Option.bind_some, digit_sign e he10, only_eq e he10]
  exact Ev.bind (moves_ev hpc) (between_l0 hpc d e hd10 m (by omega) m 0 (by omega))
end WalkV
theorem digitSign : ∀ d : Fin 10, bt (⟨#[48, 49, 50, 51, 52, 53, 54, 55, 56, 57]⟩ : ByteArray) (d.val : Int) = 48 + (d.val : Int) := by decide +kernel
theorem digitText_l0 (l : List Int) (hl : l.length ≤ 1000000) (hd : ∀ x ∈ l, 0 ≤ x ∧ x < 10) : ∀ (d i : Nat) (out : List Int), i + d = l.length → out.length + d ≤ 2000000 →
    Ev (fun k => impl_digitText.l0 k out l (l.length : Int) i) (strOfNums (out ++ (l.drop i).map (48 + ·)))
  | 0, i, out, hi, ho => by
    apply Ev.succ; simp only [impl_digitText.l0]
    refine Ev.neg (by omega) (Ev.const ?_)
    rw [List.drop_of_length_le (by omega)]; simp
  | d + 1, i, out, hi, ho => by
    have hlt : i < l.length := by omega
    have hb := hd _ (List.getElem_mem hlt)
    apply Ev.succ; simp only [impl_digitText.l0]
    rw [rd_nat l i hlt, wrap_id (by omega) (by omega)]
    refine Ev.yes (Ev.yes (Ev.yes (Ev.yes (Ev.yes (Ev.yes ?_)))))
    obtain ⟨n, hn⟩ := Int.eq_ofNat_of_zero_le hb.1
    have e := digitSign ⟨n, by omega⟩
    rw [List.drop_eq_getElem_cons hlt, List.map_cons, hn]
    simp only at e
    rw [e]
    have := digitText_l0 l hl hd d (i + 1) (out ++ [48 + (n : Int)]) (by omega) (by simp; omega)
    rw [List.append_assoc] at this
    exact_mod_cast this
theorem digitText_ev (l : List Int) (hl : l.length ≤ 1000000) (hd : ∀ x ∈ l, 0 ≤ x ∧ x < 10) : Ev (fun k => impl_digitText.f k l) (strOfNums (l.map (48 + ·))) := by
  unfold impl_digitText.f
  have := digitText_l0 l hl hd l.length 0 [] (by omega) (by simp; omega)
  simpa using this
end Go.Proofs.YtffbfkfbeggdnaaGreatDoor
