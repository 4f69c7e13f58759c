/- Part 4 of 5 of the proof of: FnPatternsDrawnCardSaid: the law 'FnPatternsDrawn' answers true for every input, and leaves its arguments as they were. The row and its tied card, over the walk of its calls and the pure statement. -/
import Derived.Test.YtfhbclfmnliopaaGreatDoorMFnPatternsDrawn1
import Derived.Test.YtfhbclfmnliopaaGreatDoorMFnPatternsDrawn2
import Derived.Test.YtfhbclfmnliopaaGreatDoorMFnPatternsDrawn3
import Derived.Test.YtfhbclfmnliopaaGreatDoorMFnPatternsDrawnW
import Derived.Laws.Strings
import Derived.Lib.SlTrimSet
import Derived.Lib.Bytealg
import Derived.Lib.SlicesCompact
-- printed by xprint.py
namespace Go.Proofs.YtfhbclfmnliopaaGreatDoor.P
open Go.RowKit Go.Proofs.YtfhbclfmnliopaaGreatDoorW.PrintWords Go.Proofs.YtfhbclfmnliopaaGreatDoorW.PrintLast Go.Proofs.YtfhbclfmnliopaaGreatDoorW.PrintMore
attribute [local go_sem] max2_int min2_int max_two min_two max_three min_three max_four min_four   -- for this text's walks alone
set_option linter.unusedVariables false
set_option linter.unusedSimpArgs false

/-! ### laws_FnPatternsDrawn: function 3 -/
theorem iter_split {b : Nat} {w W : World} {s : ByteArray} (hB : Below b w W) (hb : b ≤ W.heap.size) : ∃ g wi,g = W.heap.size ∧ wi = W.iter s 0 ∧ wi.heap[g]? = some (.stringIter s 0) ∧ Below b w wi ∧ b ≤ g :=
 ⟨_,_,rfl,rfl,World.iter_heap _ _ _,hB.alloc hb _,hb⟩
theorem run_next_atI {P : Program} {w : World} {g : Nat} {s : ByteArray} {x : Int} (ty : TypeId) (h0 : 0 ≤ x) (hg : w.heap[g]? = some (.stringIter s x.toNat)) (h : x < (s.size : Int)) (ha : bt s x < 128) :
  (Instr.next (.pointer (some ⟨g,0,none⟩)) true ty).run P w = .ok (.tuple #[.bool true,.int .i64 x,.int .i32 (bt s x)]) (iterAt w g s (x.toNat + 1)) := by
 have hl : x.toNat < s.size := by omega
 have hb : bt s x = ((s[x.toNat]'hl).toNat : Int) := by unfold bt; rw [dif_pos hl]
 rw [hb] at ha ⊢; have := run_next_at (P := P) ty hg hl (by omega); rw [this]; simp only [Int.toNat_of_nonneg h0]
theorem run_next_stopI {P : Program} {w : World} {g : Nat} {s : ByteArray} {x : Int} (ty : TypeId) (h0 : 0 ≤ x) (hg : w.heap[g]? = some (.stringIter s x.toNat)) (h : ¬ x < (s.size : Int)) :
  (Instr.next (.pointer (some ⟨g,0,none⟩)) true ty).run P w = .ok (.tuple #[.bool false]) w := run_next_stop ty hg (by omega)
theorem step_ok {s : ByteArray} {x : Int} (h0 : 0 ≤ x) (h : x < (s.size : Int)) (hz : s.size ≤ 1048576) : wrap64 (x + 1) = x + 1 := IntWalk.wrap64_in _ ⟨by omega,by omega⟩
theorem next_nat {x : Int} (h0 : 0 ≤ x) : (x + 1).toNat = x.toNat + 1 := by omega
mutual
def laws_FnPatternsDrawn.j0 : Nat → List Int → ByteArray → ByteArray → Bool → Bool → Bool → ByteArray → Bool → Option (Bool)
 | 0,_,_,_,_,_,_,_,_ => none
 | k + 1,x1,x5,x6,x7,x10,x11,x14,x145 => if x145 = true then none else (if x11 = true then ((impl_MirrorDrawn.f k x14).bind fun bt115 => ((impl_IsDrawn.f k x14).bind fun bt117 => (if bt115.2 = true then (if bt115.1.toList = x5.toList then (if bt117.2 = true then (if (bt117.1 != x10) = true then none else (laws_FnPatternsDrawn.j1 k x1 x5 x6 x7)) else none) else none) else none))) else (laws_FnPatternsDrawn.j1 k x1 x5 x6 x7))
def laws_FnPatternsDrawn.j1 : Nat → List Int → ByteArray → ByteArray → Bool → Option (Bool)
 | 0,_,_,_,_ => none
 | k + 1,x1,x5,x6,x7 => if x7 = true then (laws_FnPatternsDrawn.l0 k x1 x5 x6 x6 0) else (laws_FnPatternsDrawn.j5 k x1)
def laws_FnPatternsDrawn.j5 : Nat → List Int → Option (Bool)
 | 0,_ => none
 | k + 1,x1 => (spec_DrawCountDrawn.f x1).bind fun bt123 => ((impl_CountDrawn.f k bt123.1 bt123.2).bind fun bt125 => ((spec_CountDrawn.f k bt123.1 bt123.2).bind fun bt127 => ((impl_FirstDrawn.f k bt123.1 bt123.2).bind fun bt129 => ((spec_FirstDrawn.f k bt123.1 bt123.2).bind fun bt131 => ((spec_DrawCountAllDrawn.f x1).bind fun t133 => ((impl_CountAllDrawn.f k t133).bind fun bt134 => ((spec_CountAllDrawn.f k t133).bind fun bt136 => ((spec_DrawWheelTurns.f k x1).bind fun bt138 => ((impl_WheelTurns.f k bt138.1 bt138.2).bind fun bt140 => ((spec_WheelTurns.f k bt138.1 bt138.2).bind fun bt142 => ((spec_DrawTurnWheel.f k x1).bind fun bt144 => ((impl_TurnWheel.f bt144.1 bt144.2.1 bt144.2.2).bind fun bt147 => ((spec_TurnWheel.f k bt144.1 bt144.2.1 bt144.2.2).bind fun bt149 => (if (bt125.2 != bt127.2) = true then (laws_FnPatternsDrawn.j6 k bt123.1 bt123.2 bt125.1 bt125.2 bt129.1 bt129.2 t133 bt134.1 bt134.2 bt138.1 bt138.2 bt140.1 bt140.2 bt144.1 bt144.2.1 bt144.2.2 bt147.1 bt147.2 true) else (if bt125.1 = bt127.1 then (if (bt129.2 != bt131.2) = true then (laws_FnPatternsDrawn.j6 k bt123.1 bt123.2 bt125.1 bt125.2 bt129.1 bt129.2 t133 bt134.1 bt134.2 bt138.1 bt138.2 bt140.1 bt140.2 bt144.1 bt144.2.1 bt144.2.2 bt147.1 bt147.2 true) else (if bt129.1.toList = bt131.1.toList then (if (bt134.2 != bt136.2) = true then (laws_FnPatternsDrawn.j6 k bt123.1 bt123.2 bt125.1 bt125.2 bt129.1 bt129.2 t133 bt134.1 bt134.2 bt138.1 bt138.2 bt140.1 bt140.2 bt144.1 bt144.2.1 bt144.2.2 bt147.1 bt147.2 true) else (if bt134.1 = bt136.1 then (if (bt140.2 != bt142.2) = true then (laws_FnPatternsDrawn.j6 k bt123.1 bt123.2 bt125.1 bt125.2 bt129.1 bt129.2 t133 bt134.1 bt134.2 bt138.1 bt138.2 bt140.1 bt140.2 bt144.1 bt144.2.1 bt144.2.2 bt147.1 bt147.2 true) else (if bt140.1 = bt142.1 then (if (bt147.2 != bt149.2) = true then (laws_FnPatternsDrawn.j6 k bt123.1 bt123.2 bt125.1 bt125.2 bt129.1 bt129.2 t133 bt134.1 bt134.2 bt138.1 bt138.2 bt140.1 bt140.2 bt144.1 bt144.2.1 bt144.2.2 bt147.1 bt147.2 true) else (if bt147.1.toList = bt149.1.toList then (if bt125.2 = true then (laws_FnPatternsDrawn.j6 k bt123.1 bt123.2 bt125.1 bt125.2 bt129.1 bt129.2 t133 bt134.1 bt134.2 bt138.1 bt138.2 bt140.1 bt140.2 bt144.1 bt144.2.1 bt144.2.2 bt147.1 bt147.2 (bt129.2 != (decide (bt125.1 > 0)))) else (laws_FnPatternsDrawn.j6 k bt123.1 bt123.2 bt125.1 bt125.2 bt129.1 bt129.2 t133 bt134.1 bt134.2 bt138.1 bt138.2 bt140.1 bt140.2 bt144.1 bt144.2.1 bt144.2.2 bt147.1 bt147.2 (bt129.2 != false))) else (laws_FnPatternsDrawn.j6 k bt123.1 bt123.2 bt125.1 bt125.2 bt129.1 bt129.2 t133 bt134.1 bt134.2 bt138.1 bt138.2 bt140.1 bt140.2 bt144.1 bt144.2.1 bt144.2.2 bt147.1 bt147.2 true))) else (laws_FnPatternsDrawn.j6 k bt123.1 bt123.2 bt125.1 bt125.2 bt129.1 bt129.2 t133 bt134.1 bt134.2 bt138.1 bt138.2 bt140.1 bt140.2 bt144.1 bt144.2.1 bt144.2.2 bt147.1 bt147.2 true))) else (laws_FnPatternsDrawn.j6 k bt123.1 bt123.2 bt125.1 bt125.2 bt129.1 bt129.2 t133 bt134.1 bt134.2 bt138.1 bt138.2 bt140.1 bt140.2 bt144.1 bt144.2.1 bt144.2.2 bt147.1 bt147.2 true))) else (laws_FnPatternsDrawn.j6 k bt123.1 bt123.2 bt125.1 bt125.2 bt129.1 bt129.2 t133 bt134.1 bt134.2 bt138.1 bt138.2 bt140.1 bt140.2 bt144.1 bt144.2.1 bt144.2.2 bt147.1 bt147.2 true))) else (laws_FnPatternsDrawn.j6 k bt123.1 bt123.2 bt125.1 bt125.2 bt129.1 bt129.2 t133 bt134.1 bt134.2 bt138.1 bt138.2 bt140.1 bt140.2 bt144.1 bt144.2.1 bt144.2.2 bt147.1 bt147.2 true))))))))))))))))
def laws_FnPatternsDrawn.j6 : Nat → ByteArray → Int → Int → Bool → ByteArray → Bool → Int → Int → Bool → ByteArray → ByteArray → Int → Bool → ByteArray → Int → Int → ByteArray → Bool → Bool → Option (Bool)
 | 0,_,_,_,_,_,_,_,_,_,_,_,_,_,_,_,_,_,_,_ => none
 | k + 1,x27,x28,x29,x30,x33,x34,x37,x38,x39,x42,x43,x44,x45,x48,x49,x50,x51,x52,x376 => if x376 = true then none else (if x34 = true then ((impl_IsDrawn.f k x33).bind fun bt151 => (if (x33.size : Int) = x28 then (if 0 ≤ 1 then (if 1 ≤ (x33.size : Int) then (if (x33.extract 0 1).toList = x27.toList then (if bt151.2 = true then (if bt151.1 = true then (laws_FnPatternsDrawn.j7 k x28 x29 x30 x37 x38 x39 x42 x43 x44 x45 x48 x49 x50 x51 x52) else none) else none) else none) else (none)) else (none)) else none)) else (laws_FnPatternsDrawn.j7 k x28 x29 x30 x37 x38 x39 x42 x43 x44 x45 x48 x49 x50 x51 x52))
def laws_FnPatternsDrawn.j7 : Nat → Int → Int → Bool → Int → Int → Bool → ByteArray → ByteArray → Int → Bool → ByteArray → Int → Int → ByteArray → Bool → Option (Bool)
 | 0,_,_,_,_,_,_,_,_,_,_,_,_,_,_,_ => none
 | k + 1,x28,x29,x30,x37,x38,x39,x42,x43,x44,x45,x48,x49,x50,x51,x52 => if x30 = true then (laws_FnPatternsDrawn.j8 k x28 x29 x37 x38 x39 x42 x43 x44 x45 x48 x49 x50 x51 x52 (decide (x28 ≤ 5))) else (laws_FnPatternsDrawn.j8 k x28 x29 x37 x38 x39 x42 x43 x44 x45 x48 x49 x50 x51 x52 false)
def laws_FnPatternsDrawn.j8 : Nat → Int → Int → Int → Int → Bool → ByteArray → ByteArray → Int → Bool → ByteArray → Int → Int → ByteArray → Bool → Bool → Option (Bool)
 | 0,_,_,_,_,_,_,_,_,_,_,_,_,_,_,_ => none
 | k + 1,x28,x29,x37,x38,x39,x42,x43,x44,x45,x48,x49,x50,x51,x52,x405 => if x405 = true then ((impl_CountAllDrawn.f k x28).bind fun bt153 => (if bt153.2 = true then (if x29 > bt153.1 then none else (laws_FnPatternsDrawn.j9 k x37 x38 x39 x42 x43 x44 x45 x48 x49 x50 x51 x52)) else none)) else (laws_FnPatternsDrawn.j9 k x37 x38 x39 x42 x43 x44 x45 x48 x49 x50 x51 x52)
def laws_FnPatternsDrawn.j9 : Nat → Int → Int → Bool → ByteArray → ByteArray → Int → Bool → ByteArray → Int → Int → ByteArray → Bool → Option (Bool)
 | 0,_,_,_,_,_,_,_,_,_,_,_,_ => none
 | k + 1,x37,x38,x39,x42,x43,x44,x45,x48,x49,x50,x51,x52 => if x39 = true then (laws_FnPatternsDrawn.j10 k x37 x38 x42 x43 x44 x45 x48 x49 x50 x51 x52 (decide (x37 ≤ 4))) else (laws_FnPatternsDrawn.j10 k x37 x38 x42 x43 x44 x45 x48 x49 x50 x51 x52 false)
def laws_FnPatternsDrawn.j10 : Nat → Int → Int → ByteArray → ByteArray → Int → Bool → ByteArray → Int → Int → ByteArray → Bool → Bool → Option (Bool)
 | 0,_,_,_,_,_,_,_,_,_,_,_,_ => none
 | k + 1,x37,x38,x42,x43,x44,x45,x48,x49,x50,x51,x52,x422 => if x422 = true then (laws_FnPatternsDrawn.l1 k x37 x38 x42 x43 x44 x45 x48 x49 x50 x51 x52 0 0) else (laws_FnPatternsDrawn.j12 k x42 x43 x44 x45 x48 x49 x50 x51 x52)
def laws_FnPatternsDrawn.j12 : Nat → ByteArray → ByteArray → Int → Bool → ByteArray → Int → Int → ByteArray → Bool → Option (Bool)
 | 0,_,_,_,_,_,_,_,_,_ => none
 | k + 1,x42,x43,x44,x45,x48,x49,x50,x51,x52 => if x45 = true then ((impl_WheelTurns.f k x43 x42).bind fun bt157 => (if bt157.2 = true then (if bt157.1 = x44 then (if x44 < 0 then none else (if x44 > (wrap64 (5 * (x42.size : Int))) then none else (if ((x44 == 0) != (x42.toList == x43.toList)) = true then none else (laws_FnPatternsDrawn.j13 k x48 x49 x50 x51 x52)))) else none) else none)) else (laws_FnPatternsDrawn.j13 k x48 x49 x50 x51 x52)
def laws_FnPatternsDrawn.j13 : Nat → ByteArray → Int → Int → ByteArray → Bool → Option (Bool)
 | 0,_,_,_,_,_ => none
 | k + 1,x48,x49,x50,x51,x52 => if x52 = true then ((impl_TurnWheel.f x51 x49 (wrap64 (-x50))).bind fun bt159 => ((impl_WheelTurns.f k x48 x51).bind fun bt161 => (if (Int.tmod x50 10) < 0 then (laws_FnPatternsDrawn.j14 k x48 bt159.1 bt159.2 bt161.1 bt161.2 (wrap64 (-(Int.tmod x50 10)))) else (laws_FnPatternsDrawn.j14 k x48 bt159.1 bt159.2 bt161.1 bt161.2 (Int.tmod x50 10))))) else (some true)
def laws_FnPatternsDrawn.j14 : Nat → ByteArray → ByteArray → Bool → Int → Bool → Int → Option (Bool)
 | 0,_,_,_,_,_,_ => none
 | k + 1,x48,x65,x66,x67,x68,x69 => if x69 > 5 then (if x66 = true then (if x65.toList = x48.toList then (if x68 = true then (if x67 = (wrap64 (10 - x69)) then (some true) else none) else none) else none) else none) else (if x66 = true then (if x65.toList = x48.toList then (if x68 = true then (if x67 = x69 then (some true) else none) else none) else none) else none)
def laws_FnPatternsDrawn.l1 : Nat → Int → Int → ByteArray → ByteArray → Int → Bool → ByteArray → Int → Int → ByteArray → Bool → Int → Int → Option (Bool)
 | 0,_,_,_,_,_,_,_,_,_,_,_,_,_ => none
 | k + 1,x37,x38,x42,x43,x44,x45,x48,x49,x50,x51,x52,x59,x60 => if x60 < 9 then (if 0 ≤ x60 then (if x60 ≤ (wrap64 (x60 + 1)) then (if (wrap64 (x60 + 1)) ≤ 9 then ((impl_CountDrawn.f k ((⟨#[49,50,51,52,53,54,55,56,57]⟩ : ByteArray).extract (x60 : Int).toNat ((wrap64 (x60 + 1)) : Int).toNat) x37).bind fun bt155 => (if bt155.2 = true then (laws_FnPatternsDrawn.l1 k x37 x38 x42 x43 x44 x45 x48 x49 x50 x51 x52 (wrap64 (x59 + bt155.1)) (wrap64 (x60 + 1))) else none)) else (none)) else (none)) else (none)) else (if x59 = x38 then (laws_FnPatternsDrawn.j12 k x42 x43 x44 x45 x48 x49 x50 x51 x52) else none)
def laws_FnPatternsDrawn.l0 : Nat → List Int → ByteArray → ByteArray → ByteArray → Int → Option (Bool)
 | 0,_,_,_,_,_ => none
 | k + 1,x1,x5,x6,x174,x175 => if x175 < (x174.size : Int) then (if (bt x174 x175) < 128 ∧ x174.size ≤ 1048576 then (if x175 > 0 then (if 0 ≤ (wrap64 (x175 - 1)) then (if (wrap64 (x175 - 1)) < (x6.size : Int) then (if 0 ≤ x175 then (if x175 < (x6.size : Int) then (laws_FnPatternsDrawn.j3 k x1 x5 x6 x175 x174 (wrap64 (x175 + 1)) (decide ((bt x6 (wrap64 (x175 - 1))) ≥ (bt x6 x175)))) else (none)) else (none)) else (none)) else (none)) else (laws_FnPatternsDrawn.j3 k x1 x5 x6 x175 x174 (wrap64 (x175 + 1)) false)) else none) else (if (x5.size : Int) < 9 then (if (x6.size : Int) < 1 then (laws_FnPatternsDrawn.j4 k x1 x5 true) else (laws_FnPatternsDrawn.j4 k x1 x5 (decide ((x6.size : Int) > (wrap64 (9 - (x5.size : Int))))))) else (laws_FnPatternsDrawn.j4 k x1 x5 (decide ((x6.size : Int) > (wrap64 (9 - (x5.size : Int)))))))
def laws_FnPatternsDrawn.j3 : Nat → List Int → ByteArray → ByteArray → Int → ByteArray → Int → Bool → Option (Bool)
 | 0,_,_,_,_,_,_,_ => none
 | k + 1,x1,x5,x6,x22,x174,x175,x190 => if x190 = true then none else (if 0 ≤ x22 then (if x22 ≤ (wrap64 (x22 + 1)) then (if (wrap64 (x22 + 1)) ≤ (x6.size : Int) then (if x5.size + (x6.extract (x22 : Int).toNat ((wrap64 (x22 + 1)) : Int).toNat).size ≤ 9223372036854775807 then ((impl_IsDrawn.f k (x5 ++ (x6.extract (x22 : Int).toNat ((wrap64 (x22 + 1)) : Int).toNat))).bind fun bt119 => (if bt119.2 = true then (if bt119.1 = true then (laws_FnPatternsDrawn.l0 k x1 x5 x6 x174 x175) else none) else none)) else (none)) else (none)) else (none)) else (none))
def laws_FnPatternsDrawn.j4 : Nat → List Int → ByteArray → Bool → Option (Bool)
 | 0,_,_,_ => none
 | k + 1,x1,x5,x223 => if x223 = true then none else (if (x5.size : Int) > 1 then (if 0 ≤ (wrap64 ((x5.size : Int) - 1)) then (if (wrap64 ((x5.size : Int) - 1)) ≤ (x5.size : Int) then ((impl_IsDrawn.f k (x5.extract 0 ((wrap64 ((x5.size : Int) - 1)) : Int).toNat)).bind fun bt121 => (if bt121.2 = true then (if bt121.1 = true then (laws_FnPatternsDrawn.j5 k x1) else none) else none)) else (none)) else (none)) else (laws_FnPatternsDrawn.j5 k x1))
end
def laws_FnPatternsDrawn.f (k : Nat) (l0 : List Int) (l1 : List Int) : Option (Bool) := (laws_big.f l0 l1).bind fun t101 => (if t101 = true then (some true) else ((spec_DrawNextPoints.f k l0).bind fun t102 => ((impl_NextPoints.f k t102).bind fun bt103 => ((spec_NextPoints.f k t102).bind fun bt105 => ((impl_IsDrawn.f k t102).bind fun bt107 => ((spec_IsDrawn.f k t102).bind fun bt109 => ((impl_MirrorDrawn.f k t102).bind fun bt111 => ((spec_MirrorDrawn.f k t102).bind fun bt113 => (if (bt103.2 != bt105.2) = true then (laws_FnPatternsDrawn.j0 k l1 t102 bt103.1 bt103.2 bt107.1 bt107.2 bt111.1 true) else (if bt103.1.toList = bt105.1.toList then (if (bt107.2 != bt109.2) = true then (laws_FnPatternsDrawn.j0 k l1 t102 bt103.1 bt103.2 bt107.1 bt107.2 bt111.1 true) else (if (bt107.1 != bt109.1) = true then (laws_FnPatternsDrawn.j0 k l1 t102 bt103.1 bt103.2 bt107.1 bt107.2 bt111.1 true) else (if (bt111.2 != bt113.2) = true then (laws_FnPatternsDrawn.j0 k l1 t102 bt103.1 bt103.2 bt107.1 bt107.2 bt111.1 true) else (if bt111.1.toList = bt113.1.toList then (if (bt111.2 != bt107.2) = true then (laws_FnPatternsDrawn.j0 k l1 t102 bt103.1 bt103.2 bt107.1 bt107.2 bt111.1 true) else (if bt107.2 = true then (laws_FnPatternsDrawn.j0 k l1 t102 bt103.1 bt103.2 bt107.1 bt107.2 bt111.1 (bt103.2 != bt107.1)) else (laws_FnPatternsDrawn.j0 k l1 t102 bt103.1 bt103.2 bt107.1 bt107.2 bt111.1 (bt103.2 != false)))) else (laws_FnPatternsDrawn.j0 k l1 t102 bt103.1 bt103.2 bt107.1 bt107.2 bt111.1 true))))) else (laws_FnPatternsDrawn.j0 k l1 t102 bt103.1 bt103.2 bt107.1 bt107.2 bt111.1 true)))))))))))
theorem laws_FnPatternsDrawn.j0_none : ∀ k z0 z1 z2 z3 z4 z5 z6,laws_FnPatternsDrawn.j0 k z0 z1 z2 z3 z4 z5 z6 true = none := by
 intro k z0 z1 z2 z3 z4 z5 z6
 cases k <;> simp [laws_FnPatternsDrawn.j0]
theorem laws_FnPatternsDrawn.j6_none : ∀ k z0 z1 z2 z3 z4 z5 z6 z7 z8 z9 z10 z11 z12 z13 z14 z15 z16 z17,laws_FnPatternsDrawn.j6 k z0 z1 z2 z3 z4 z5 z6 z7 z8 z9 z10 z11 z12 z13 z14 z15 z16 z17 true = none := by
 intro k z0 z1 z2 z3 z4 z5 z6 z7 z8 z9 z10 z11 z12 z13 z14 z15 z16 z17
 cases k <;> simp [laws_FnPatternsDrawn.j6]
theorem laws_FnPatternsDrawn.j4_none : ∀ k z0 z1,laws_FnPatternsDrawn.j4 k z0 z1 true = none := by
 intro k z0 z1
 cases k <;> simp [laws_FnPatternsDrawn.j4]
theorem laws_FnPatternsDrawn.j3_none : ∀ k z0 z1 z2 z3 z4 z5,laws_FnPatternsDrawn.j3 k z0 z1 z2 z3 z4 z5 true = none := by
 intro k z0 z1 z2 z3 z4 z5
 cases k <;> simp [laws_FnPatternsDrawn.j3]
set_option maxHeartbeats 8000000 in
set_option maxRecDepth 100000 in
theorem laws_FnPatternsDrawn.calls (k : Nat) (A0 : Option Addr) (c0 : Nat) (l0 : List Int) (A1 : Option Addr) (c1 : Nat) (l1 : List Int) (r : Bool) (w : World) (hr0 : Kd.C (Kd.int .u8) w A0 l0.length l0) (hc0 : l0.length ≤ c0) (hr1 : Kd.C (Kd.int .u8) w A1 l1.length l1) (hc1 : l1.length ≤ c1) (h : laws_FnPatternsDrawn.f k l0 l1 = some r) :
  Calls Tryz.prog 3 #[.slice A0 l0.length c0,.slice A1 l1.length c1] w fun e w' => e = .returned (.bool r) ∧ Below w.heap.size w w' := by
 have HR0 := Aside0.mk hr0; have HC0 := Aside0.mk hc0; clear hr0 hc0; have HR1 := Aside0.mk hr1; have HC1 := Aside0.mk hc1; clear hr1 hc1; have HB := Aside0.mk (Below.refl w.heap.size w); have H : ((laws_big.f l0 l1).bind fun t101 => (if t101 = true then (some true) else ((spec_DrawNextPoints.f k l0).bind fun t102 => ((impl_NextPoints.f k t102).bind fun bt103 => ((spec_NextPoints.f k t102).bind fun bt105 => ((impl_IsDrawn.f k t102).bind fun bt107 => ((spec_IsDrawn.f k t102).bind fun bt109 => ((impl_MirrorDrawn.f k t102).bind fun bt111 => ((spec_MirrorDrawn.f k t102).bind fun bt113 => (if (bt103.2 != bt105.2) = true then (laws_FnPatternsDrawn.j0 k l1 t102 bt103.1 bt103.2 bt107.1 bt107.2 bt111.1 true) else (if bt103.1.toList = bt105.1.toList then (if (bt107.2 != bt109.2) = true then (laws_FnPatternsDrawn.j0 k l1 t102 bt103.1 bt103.2 bt107.1 bt107.2 bt111.1 true) else (if (bt107.1 != bt109.1) = true then (laws_FnPatternsDrawn.j0 k l1 t102 bt103.1 bt103.2 bt107.1 bt107.2 bt111.1 true) else (if (bt111.2 != bt113.2) = true then (laws_FnPatternsDrawn.j0 k l1 t102 bt103.1 bt103.2 bt107.1 bt107.2 bt111.1 true) else (if bt111.1.toList = bt113.1.toList then (if (bt111.2 != bt107.2) = true then (laws_FnPatternsDrawn.j0 k l1 t102 bt103.1 bt103.2 bt107.1 bt107.2 bt111.1 true) else (if bt107.2 = true then (laws_FnPatternsDrawn.j0 k l1 t102 bt103.1 bt103.2 bt107.1 bt107.2 bt111.1 (bt103.2 != bt107.1)) else (laws_FnPatternsDrawn.j0 k l1 t102 bt103.1 bt103.2 bt107.1 bt107.2 bt111.1 (bt103.2 != false)))) else (laws_FnPatternsDrawn.j0 k l1 t102 bt103.1 bt103.2 bt107.1 bt107.2 bt111.1 true))))) else (laws_FnPatternsDrawn.j0 k l1 t102 bt103.1 bt103.2 bt107.1 bt107.2 bt111.1 true)))))))))))) = some r := h; clear h; replace H := Option.bind_eq_some_iff.mp H; obtain ⟨t101,A30,H⟩ := H; replace H : (if t101 = true then (some true) else ((spec_DrawNextPoints.f k l0).bind fun t102 => ((impl_NextPoints.f k t102).bind fun bt103 => ((spec_NextPoints.f k t102).bind fun bt105 => ((impl_IsDrawn.f k t102).bind fun bt107 => ((spec_IsDrawn.f k t102).bind fun bt109 => ((impl_MirrorDrawn.f k t102).bind fun bt111 => ((spec_MirrorDrawn.f k t102).bind fun bt113 => (if (bt103.2 != bt105.2) = true then (laws_FnPatternsDrawn.j0 k l1 t102 bt103.1 bt103.2 bt107.1 bt107.2 bt111.1 true) else (if bt103.1.toList = bt105.1.toList then (if (bt107.2 != bt109.2) = true then (laws_FnPatternsDrawn.j0 k l1 t102 bt103.1 bt103.2 bt107.1 bt107.2 bt111.1 true) else (if (bt107.1 != bt109.1) = true then (laws_FnPatternsDrawn.j0 k l1 t102 bt103.1 bt103.2 bt107.1 bt107.2 bt111.1 true) else (if (bt111.2 != bt113.2) = true then (laws_FnPatternsDrawn.j0 k l1 t102 bt103.1 bt103.2 bt107.1 bt107.2 bt111.1 true) else (if bt111.1.toList = bt113.1.toList then (if (bt111.2 != bt107.2) = true then (laws_FnPatternsDrawn.j0 k l1 t102 bt103.1 bt103.2 bt107.1 bt107.2 bt111.1 true) else (if bt107.2 = true then (laws_FnPatternsDrawn.j0 k l1 t102 bt103.1 bt103.2 bt107.1 bt107.2 bt111.1 (bt103.2 != bt107.1)) else (laws_FnPatternsDrawn.j0 k l1 t102 bt103.1 bt103.2 bt107.1 bt107.2 bt111.1 (bt103.2 != false)))) else (laws_FnPatternsDrawn.j0 k l1 t102 bt103.1 bt103.2 bt107.1 bt107.2 bt111.1 true))))) else (laws_FnPatternsDrawn.j0 k l1 t102 bt103.1 bt103.2 bt107.1 bt107.2 bt111.1 true))))))))))) = some r := H; have A3 := Aside0.mk A30; clear A30
 by_cases c4 : t101 = true
 ·
  subst c4; have H1 : (some true) = some r := by rw [if_pos rfl] at H; exact H
  clear H; have H := H1; clear H1; obtain rfl := Option.some.inj H
  go_enter Tryz.func3,Tryz.ntmps3
  go_wp2_with (first | (go_at_call 4; (with_reducible refine (laws_big.calls _ _ l0 _ _ l1 true _ ?side1 ?side2 ?side3 ?side4 A3.out).mono ?_); (case side1 => repeat (first | exact HR0.out | (with_reducible refine Kd.C_alloc ?_ _) | (with_reducible refine Kd.C_drewN ?_ _) | (with_reducible refine Kd.C_drew ?_))); (case side2 => exact HC0.out); (case side3 => repeat (first | exact HR1.out | (with_reducible refine Kd.C_alloc ?_ _) | (with_reducible refine Kd.C_drewN ?_ _) | (with_reducible refine Kd.C_drew ?_))); (case side4 => exact HC1.out); rintro e w' ⟨rfl,⟨nd,rfl⟩⟩; (try first | exact ⟨rfl,_,World.drewN_drewN _ _ _⟩ | exact ⟨rfl,_,Eq.trans (World.drewN_drewN _ _ _) (congrArg (World.drewN _) (Nat.add_assoc _ _ _))⟩)))
  go_ret
  exact ⟨by first | rfl | (simp [errW_none,errW_some] <;> rfl) | (simp [*,errW_none,errW_some] <;> rfl),by repeat (first | (with_reducible first | exact HB.out | apply below_alloc | apply pw_below_drewN | apply below_drew1) | exact HB.out)⟩
 ·
  replace c4 := Bool.eq_false_iff.mpr c4; subst c4; have H1 : ((spec_DrawNextPoints.f k l0).bind fun t102 => ((impl_NextPoints.f k t102).bind fun bt103 => ((spec_NextPoints.f k t102).bind fun bt105 => ((impl_IsDrawn.f k t102).bind fun bt107 => ((spec_IsDrawn.f k t102).bind fun bt109 => ((impl_MirrorDrawn.f k t102).bind fun bt111 => ((spec_MirrorDrawn.f k t102).bind fun bt113 => (if (bt103.2 != bt105.2) = true then (laws_FnPatternsDrawn.j0 k l1 t102 bt103.1 bt103.2 bt107.1 bt107.2 bt111.1 true) else (if bt103.1.toList = bt105.1.toList then (if (bt107.2 != bt109.2) = true then (laws_FnPatternsDrawn.j0 k l1 t102 bt103.1 bt103.2 bt107.1 bt107.2 bt111.1 true) else (if (bt107.1 != bt109.1) = true then (laws_FnPatternsDrawn.j0 k l1 t102 bt103.1 bt103.2 bt107.1 bt107.2 bt111.1 true) else (if (bt111.2 != bt113.2) = true then (laws_FnPatternsDrawn.j0 k l1 t102 bt103.1 bt103.2 bt107.1 bt107.2 bt111.1 true) else (if bt111.1.toList = bt113.1.toList then (if (bt111.2 != bt107.2) = true then (laws_FnPatternsDrawn.j0 k l1 t102 bt103.1 bt103.2 bt107.1 bt107.2 bt111.1 true) else (if bt107.2 = true then (laws_FnPatternsDrawn.j0 k l1 t102 bt103.1 bt103.2 bt107.1 bt107.2 bt111.1 (bt103.2 != bt107.1)) else (laws_FnPatternsDrawn.j0 k l1 t102 bt103.1 bt103.2 bt107.1 bt107.2 bt111.1 (bt103.2 != false)))) else (laws_FnPatternsDrawn.j0 k l1 t102 bt103.1 bt103.2 bt107.1 bt107.2 bt111.1 true))))) else (laws_FnPatternsDrawn.j0 k l1 t102 bt103.1 bt103.2 bt107.1 bt107.2 bt111.1 true)))))))))) = some r := by rw [if_neg (show ¬ (false = true) by decide)] at H; exact H
  clear H; have H := H1; clear H1; replace H := Option.bind_eq_some_iff.mp H; obtain ⟨t102,A50,H⟩ := H; replace H : ((impl_NextPoints.f k t102).bind fun bt103 => ((spec_NextPoints.f k t102).bind fun bt105 => ((impl_IsDrawn.f k t102).bind fun bt107 => ((spec_IsDrawn.f k t102).bind fun bt109 => ((impl_MirrorDrawn.f k t102).bind fun bt111 => ((spec_MirrorDrawn.f k t102).bind fun bt113 => (if (bt103.2 != bt105.2) = true then (laws_FnPatternsDrawn.j0 k l1 t102 bt103.1 bt103.2 bt107.1 bt107.2 bt111.1 true) else (if bt103.1.toList = bt105.1.toList then (if (bt107.2 != bt109.2) = true then (laws_FnPatternsDrawn.j0 k l1 t102 bt103.1 bt103.2 bt107.1 bt107.2 bt111.1 true) else (if (bt107.1 != bt109.1) = true then (laws_FnPatternsDrawn.j0 k l1 t102 bt103.1 bt103.2 bt107.1 bt107.2 bt111.1 true) else (if (bt111.2 != bt113.2) = true then (laws_FnPatternsDrawn.j0 k l1 t102 bt103.1 bt103.2 bt107.1 bt107.2 bt111.1 true) else (if bt111.1.toList = bt113.1.toList then (if (bt111.2 != bt107.2) = true then (laws_FnPatternsDrawn.j0 k l1 t102 bt103.1 bt103.2 bt107.1 bt107.2 bt111.1 true) else (if bt107.2 = true then (laws_FnPatternsDrawn.j0 k l1 t102 bt103.1 bt103.2 bt107.1 bt107.2 bt111.1 (bt103.2 != bt107.1)) else (laws_FnPatternsDrawn.j0 k l1 t102 bt103.1 bt103.2 bt107.1 bt107.2 bt111.1 (bt103.2 != false)))) else (laws_FnPatternsDrawn.j0 k l1 t102 bt103.1 bt103.2 bt107.1 bt107.2 bt111.1 true))))) else (laws_FnPatternsDrawn.j0 k l1 t102 bt103.1 bt103.2 bt107.1 bt107.2 bt111.1 true))))))))) = some r := H; have A5 := Aside0.mk A50; clear A50; replace H := Option.bind_eq_some_iff.mp H; obtain ⟨⟨t103,t104⟩,A60,H⟩ := H; replace H : ((spec_NextPoints.f k t102).bind fun bt105 => ((impl_IsDrawn.f k t102).bind fun bt107 => ((spec_IsDrawn.f k t102).bind fun bt109 => ((impl_MirrorDrawn.f k t102).bind fun bt111 => ((spec_MirrorDrawn.f k t102).bind fun bt113 => (if (t104 != bt105.2) = true then (laws_FnPatternsDrawn.j0 k l1 t102 t103 t104 bt107.1 bt107.2 bt111.1 true) else (if t103.toList = bt105.1.toList then (if (bt107.2 != bt109.2) = true then (laws_FnPatternsDrawn.j0 k l1 t102 t103 t104 bt107.1 bt107.2 bt111.1 true) else (if (bt107.1 != bt109.1) = true then (laws_FnPatternsDrawn.j0 k l1 t102 t103 t104 bt107.1 bt107.2 bt111.1 true) else (if (bt111.2 != bt113.2) = true then (laws_FnPatternsDrawn.j0 k l1 t102 t103 t104 bt107.1 bt107.2 bt111.1 true) else (if bt111.1.toList = bt113.1.toList then (if (bt111.2 != bt107.2) = true then (laws_FnPatternsDrawn.j0 k l1 t102 t103 t104 bt107.1 bt107.2 bt111.1 true) else (if bt107.2 = true then (laws_FnPatternsDrawn.j0 k l1 t102 t103 t104 bt107.1 bt107.2 bt111.1 (t104 != bt107.1)) else (laws_FnPatternsDrawn.j0 k l1 t102 t103 t104 bt107.1 bt107.2 bt111.1 (t104 != false)))) else (laws_FnPatternsDrawn.j0 k l1 t102 t103 t104 bt107.1 bt107.2 bt111.1 true))))) else (laws_FnPatternsDrawn.j0 k l1 t102 t103 t104 bt107.1 bt107.2 bt111.1 true)))))))) = some r := H; have A6 := Aside0.mk A60; clear A60; replace H := Option.bind_eq_some_iff.mp H; obtain ⟨⟨t105,t106⟩,A70,H⟩ := H; replace H : ((impl_IsDrawn.f k t102).bind fun bt107 => ((spec_IsDrawn.f k t102).bind fun bt109 => ((impl_MirrorDrawn.f k t102).bind fun bt111 => ((spec_MirrorDrawn.f k t102).bind fun bt113 => (if (t104 != t106) = true then (laws_FnPatternsDrawn.j0 k l1 t102 t103 t104 bt107.1 bt107.2 bt111.1 true) else (if t103.toList = t105.toList then (if (bt107.2 != bt109.2) = true then (laws_FnPatternsDrawn.j0 k l1 t102 t103 t104 bt107.1 bt107.2 bt111.1 true) else (if (bt107.1 != bt109.1) = true then (laws_FnPatternsDrawn.j0 k l1 t102 t103 t104 bt107.1 bt107.2 bt111.1 true) else (if (bt111.2 != bt113.2) = true then (laws_FnPatternsDrawn.j0 k l1 t102 t103 t104 bt107.1 bt107.2 bt111.1 true) else (if bt111.1.toList = bt113.1.toList then (if (bt111.2 != bt107.2) = true then (laws_FnPatternsDrawn.j0 k l1 t102 t103 t104 bt107.1 bt107.2 bt111.1 true) else (if bt107.2 = true then (laws_FnPatternsDrawn.j0 k l1 t102 t103 t104 bt107.1 bt107.2 bt111.1 (t104 != bt107.1)) else (laws_FnPatternsDrawn.j0 k l1 t102 t103 t104 bt107.1 bt107.2 bt111.1 (t104 != false)))) else (laws_FnPatternsDrawn.j0 k l1 t102 t103 t104 bt107.1 bt107.2 bt111.1 true))))) else (laws_FnPatternsDrawn.j0 k l1 t102 t103 t104 bt107.1 bt107.2 bt111.1 true))))))) = some r := H; have A7 := Aside0.mk A70; clear A70; replace H := Option.bind_eq_some_iff.mp H; obtain ⟨⟨t107,t108⟩,A80,H⟩ := H; replace H : ((spec_IsDrawn.f k t102).bind fun bt109 => ((impl_MirrorDrawn.f k t102).bind fun bt111 => ((spec_MirrorDrawn.f k t102).bind fun bt113 => (if (t104 != t106) = true then (laws_FnPatternsDrawn.j0 k l1 t102 t103 t104 t107 t108 bt111.1 true) else (if t103.toList = t105.toList then (if (t108 != bt109.2) = true then (laws_FnPatternsDrawn.j0 k l1 t102 t103 t104 t107 t108 bt111.1 true) else (if (t107 != bt109.1) = true then (laws_FnPatternsDrawn.j0 k l1 t102 t103 t104 t107 t108 bt111.1 true) else (if (bt111.2 != bt113.2) = true then (laws_FnPatternsDrawn.j0 k l1 t102 t103 t104 t107 t108 bt111.1 true) else (if bt111.1.toList = bt113.1.toList then (if (bt111.2 != t108) = true then (laws_FnPatternsDrawn.j0 k l1 t102 t103 t104 t107 t108 bt111.1 true) else (if t108 = true then (laws_FnPatternsDrawn.j0 k l1 t102 t103 t104 t107 t108 bt111.1 (t104 != t107)) else (laws_FnPatternsDrawn.j0 k l1 t102 t103 t104 t107 t108 bt111.1 (t104 != false)))) else (laws_FnPatternsDrawn.j0 k l1 t102 t103 t104 t107 t108 bt111.1 true))))) else (laws_FnPatternsDrawn.j0 k l1 t102 t103 t104 t107 t108 bt111.1 true)))))) = some r := H; have A8 := Aside0.mk A80; clear A80; replace H := Option.bind_eq_some_iff.mp H; obtain ⟨⟨t109,t110⟩,A90,H⟩ := H; replace H : ((impl_MirrorDrawn.f k t102).bind fun bt111 => ((spec_MirrorDrawn.f k t102).bind fun bt113 => (if (t104 != t106) = true then (laws_FnPatternsDrawn.j0 k l1 t102 t103 t104 t107 t108 bt111.1 true) else (if t103.toList = t105.toList then (if (t108 != t110) = true then (laws_FnPatternsDrawn.j0 k l1 t102 t103 t104 t107 t108 bt111.1 true) else (if (t107 != t109) = true then (laws_FnPatternsDrawn.j0 k l1 t102 t103 t104 t107 t108 bt111.1 true) else (if (bt111.2 != bt113.2) = true then (laws_FnPatternsDrawn.j0 k l1 t102 t103 t104 t107 t108 bt111.1 true) else (if bt111.1.toList = bt113.1.toList then (if (bt111.2 != t108) = true then (laws_FnPatternsDrawn.j0 k l1 t102 t103 t104 t107 t108 bt111.1 true) else (if t108 = true then (laws_FnPatternsDrawn.j0 k l1 t102 t103 t104 t107 t108 bt111.1 (t104 != t107)) else (laws_FnPatternsDrawn.j0 k l1 t102 t103 t104 t107 t108 bt111.1 (t104 != false)))) else (laws_FnPatternsDrawn.j0 k l1 t102 t103 t104 t107 t108 bt111.1 true))))) else (laws_FnPatternsDrawn.j0 k l1 t102 t103 t104 t107 t108 bt111.1 true))))) = some r := H; have A9 := Aside0.mk A90; clear A90; replace H := Option.bind_eq_some_iff.mp H; obtain ⟨⟨t111,t112⟩,A100,H⟩ := H; replace H : ((spec_MirrorDrawn.f k t102).bind fun bt113 => (if (t104 != t106) = true then (laws_FnPatternsDrawn.j0 k l1 t102 t103 t104 t107 t108 t111 true) else (if t103.toList = t105.toList then (if (t108 != t110) = true then (laws_FnPatternsDrawn.j0 k l1 t102 t103 t104 t107 t108 t111 true) else (if (t107 != t109) = true then (laws_FnPatternsDrawn.j0 k l1 t102 t103 t104 t107 t108 t111 true) else (if (t112 != bt113.2) = true then (laws_FnPatternsDrawn.j0 k l1 t102 t103 t104 t107 t108 t111 true) else (if t111.toList = bt113.1.toList then (if (t112 != t108) = true then (laws_FnPatternsDrawn.j0 k l1 t102 t103 t104 t107 t108 t111 true) else (if t108 = true then (laws_FnPatternsDrawn.j0 k l1 t102 t103 t104 t107 t108 t111 (t104 != t107)) else (laws_FnPatternsDrawn.j0 k l1 t102 t103 t104 t107 t108 t111 (t104 != false)))) else (laws_FnPatternsDrawn.j0 k l1 t102 t103 t104 t107 t108 t111 true))))) else (laws_FnPatternsDrawn.j0 k l1 t102 t103 t104 t107 t108 t111 true)))) = some r := H; have A10 := Aside0.mk A100; clear A100; replace H := Option.bind_eq_some_iff.mp H; obtain ⟨⟨t113,t114⟩,A110,H⟩ := H; replace H : (if (t104 != t106) = true then (laws_FnPatternsDrawn.j0 k l1 t102 t103 t104 t107 t108 t111 true) else (if t103.toList = t105.toList then (if (t108 != t110) = true then (laws_FnPatternsDrawn.j0 k l1 t102 t103 t104 t107 t108 t111 true) else (if (t107 != t109) = true then (laws_FnPatternsDrawn.j0 k l1 t102 t103 t104 t107 t108 t111 true) else (if (t112 != t114) = true then (laws_FnPatternsDrawn.j0 k l1 t102 t103 t104 t107 t108 t111 true) else (if t111.toList = t113.toList then (if (t112 != t108) = true then (laws_FnPatternsDrawn.j0 k l1 t102 t103 t104 t107 t108 t111 true) else (if t108 = true then (laws_FnPatternsDrawn.j0 k l1 t102 t103 t104 t107 t108 t111 (t104 != t107)) else (laws_FnPatternsDrawn.j0 k l1 t102 t103 t104 t107 t108 t111 (t104 != false)))) else (laws_FnPatternsDrawn.j0 k l1 t102 t103 t104 t107 t108 t111 true))))) else (laws_FnPatternsDrawn.j0 k l1 t102 t103 t104 t107 t108 t111 true))) = some r := H; have A11 := Aside0.mk A110; clear A110; have HC12 := Aside0.mk H; clear H
  go_enter Tryz.func3,Tryz.ntmps3
  go_upto_region 10 with (first | (go_at_call 4; (with_reducible refine (laws_big.calls _ _ l0 _ _ l1 false _ ?side1 ?side2 ?side3 ?side4 A3.out).mono ?_); (case side1 => repeat (first | exact HR0.out | (with_reducible refine Kd.C_alloc ?_ _) | (with_reducible refine Kd.C_drewN ?_ _) | (with_reducible refine Kd.C_drew ?_))); (case side2 => exact HC0.out); (case side3 => repeat (first | exact HR1.out | (with_reducible refine Kd.C_alloc ?_ _) | (with_reducible refine Kd.C_drewN ?_ _) | (with_reducible refine Kd.C_drew ?_))); (case side4 => exact HC1.out); rintro e w' ⟨rfl,⟨nd,rfl⟩⟩; (try first | exact ⟨rfl,_,World.drewN_drewN _ _ _⟩ | exact ⟨rfl,_,Eq.trans (World.drewN_drewN _ _ _) (congrArg (World.drewN _) (Nat.add_assoc _ _ _))⟩)) | (go_at_call 5; (with_reducible refine (spec_DrawNextPoints.calls k _ _ l0 t102 _ ?side1 ?side2 A5.out).mono ?_); (case side1 => repeat (first | exact HR0.out | (with_reducible refine Kd.C_alloc ?_ _) | (with_reducible refine Kd.C_drewN ?_ _) | (with_reducible refine Kd.C_drew ?_))); (case side2 => exact HC0.out); rintro e w13 ⟨rfl,hb⟩; have n0_ := Aside0.mk (below_step (by repeat (first | (with_reducible first | exact HB.out | apply below_alloc | apply pw_below_drewN | apply below_drew1) | exact HB.out)) hb); clear HB; have HB := n0_; clear n0_; (try clear hb); (try clear hb2); (try clear hk); (try clear hi)) | (go_at_call 6; (with_reducible refine (impl_NextPoints.calls k t102 t103 t104 _ A6.out).mono ?_); rintro e w14 ⟨rfl,hb⟩; have n0_ := Aside0.mk (below_step (by repeat (first | (with_reducible first | exact HB.out | apply below_alloc | apply pw_below_drewN | apply below_drew1) | exact HB.out)) hb); clear HB; have HB := n0_; clear n0_; (try clear hb); (try clear hb2); (try clear hk); (try clear hi)) | (go_at_call 7; (with_reducible refine (spec_NextPoints.calls k t102 t105 t106 _ A7.out).mono ?_); rintro e w' ⟨rfl,⟨nd,rfl⟩⟩; (try first | exact ⟨rfl,_,World.drewN_drewN _ _ _⟩ | exact ⟨rfl,_,Eq.trans (World.drewN_drewN _ _ _) (congrArg (World.drewN _) (Nat.add_assoc _ _ _))⟩)) | (go_at_call 8; (with_reducible refine (impl_IsDrawn.calls k t102 t107 t108 _ A8.out).mono ?_); rintro e w15 ⟨rfl,hb⟩; have n0_ := Aside0.mk (below_step (by repeat (first | (with_reducible first | exact HB.out | apply below_alloc | apply pw_below_drewN | apply below_drew1) | exact HB.out)) hb); clear HB; have HB := n0_; clear n0_; (try clear hb); (try clear hb2); (try clear hk); (try clear hi)) | (go_at_call 9; (with_reducible refine (spec_IsDrawn.calls k t102 t109 t110 _ A9.out).mono ?_); rintro e w' ⟨rfl,⟨nd,rfl⟩⟩; (try first | exact ⟨rfl,_,World.drewN_drewN _ _ _⟩ | exact ⟨rfl,_,Eq.trans (World.drewN_drewN _ _ _) (congrArg (World.drewN _) (Nat.add_assoc _ _ _))⟩)) | (go_at_call 10; (with_reducible refine (impl_MirrorDrawn.calls k t102 t111 t112 _ A10.out).mono ?_); rintro e w16 ⟨rfl,hb⟩; have n0_ := Aside0.mk (below_step (by repeat (first | (with_reducible first | exact HB.out | apply below_alloc | apply pw_below_drewN | apply below_drew1) | exact HB.out)) hb); clear HB; have HB := n0_; clear n0_; (try clear hb); (try clear hb2); (try clear hk); (try clear hi)) | (go_at_call 11; (with_reducible refine (spec_MirrorDrawn.calls k t102 t113 t114 _ A11.out).mono ?_); rintro e w17 ⟨rfl,hb⟩; have n0_ := Aside0.mk (below_step (by repeat (first | (with_reducible first | exact HB.out | apply below_alloc | apply pw_below_drewN | apply below_drew1) | exact HB.out)) hb); clear HB; have HB := n0_; clear n0_; (try clear hb); (try clear hb2); (try clear hk); (try clear hi)))
  (try simp only [Act.put,List.setIfInBounds_toArray,List.set_cons_zero,List.set_cons_succ])
  go_cut [145] from 70 to 104 (fun v145 wc => ∃ (kq : Nat) (x145_11 : Bool),v145 = .bool x145_11 ∧ Aside0 (laws_FnPatternsDrawn.j0 kq l1 t102 t103 t104 t107 t108 t111 x145_11 = some r) ∧ Aside0 (kq ≤ k) ∧ Aside0 (Below w.heap.size w wc))
  case first =>
   have H := HC12.out; clear HC12
   by_cases c18 : (t104 != t106) = true
   · rw [if_pos c18] at H; exact absurd H (by rw [laws_FnPatternsDrawn.j0_none]; simp)
   ·
    rw [if_neg c18] at H; have c18b0 : (t104 != t106) = false := by simpa using c18
    (try (have c18b1 : decide (t104 = t106) = true := by simpa using c18))
    (try (have c18b2 : (t104 == t106) = true := by simpa using c18))
    clear c18
    (first | rw [c18b0] | (simp only [i64_w,i32_w]; rw [c18b0]) | skip)
    by_cases c19 : t103.toList = t105.toList
    ·
     rw [if_pos c19] at H; have c19b0 : (t103.toList == t105.toList) = true := beq_iff_eq.mpr c19; have c19b1 : (t103.toList != t105.toList) = false := bne_eq_false_iff_eq.mpr c19; clear c19
     by_cases c20 : (t108 != t110) = true
     · rw [if_pos c20] at H; exact absurd H (by rw [laws_FnPatternsDrawn.j0_none]; simp)
     ·
      rw [if_neg c20] at H; have c20b0 : (t108 != t110) = false := by simpa using c20
      (try (have c20b1 : decide (t108 = t110) = true := by simpa using c20))
      (try (have c20b2 : (t108 == t110) = true := by simpa using c20))
      clear c20
      by_cases c21 : (t107 != t109) = true
      · rw [if_pos c21] at H; exact absurd H (by rw [laws_FnPatternsDrawn.j0_none]; simp)
      ·
       rw [if_neg c21] at H; have c21b0 : (t107 != t109) = false := by simpa using c21
       (try (have c21b1 : decide (t107 = t109) = true := by simpa using c21))
       (try (have c21b2 : (t107 == t109) = true := by simpa using c21))
       clear c21
       by_cases c22 : (t112 != t114) = true
       · rw [if_pos c22] at H; exact absurd H (by rw [laws_FnPatternsDrawn.j0_none]; simp)
       ·
        rw [if_neg c22] at H; have c22b0 : (t112 != t114) = false := by simpa using c22
        (try (have c22b1 : decide (t112 = t114) = true := by simpa using c22))
        (try (have c22b2 : (t112 == t114) = true := by simpa using c22))
        clear c22
        by_cases c23 : t111.toList = t113.toList
        ·
         rw [if_pos c23] at H; have c23b0 : (t111.toList == t113.toList) = true := beq_iff_eq.mpr c23; have c23b1 : (t111.toList != t113.toList) = false := bne_eq_false_iff_eq.mpr c23; clear c23
         by_cases c24 : (t112 != t108) = true
         · rw [if_pos c24] at H; exact absurd H (by rw [laws_FnPatternsDrawn.j0_none]; simp)
         ·
          rw [if_neg c24] at H; have c24b0 : (t112 != t108) = false := by simpa using c24
          (try (have c24b1 : decide (t112 = t108) = true := by simpa using c24))
          (try (have c24b2 : (t112 == t108) = true := by simpa using c24))
          clear c24
          by_cases c25 : t108 = true
          ·
           subst c25; have H1 : (laws_FnPatternsDrawn.j0 k l1 t102 t103 t104 t107 true t111 (t104 != t107)) = some r := by rw [if_pos rfl] at H; exact H
           clear H; have H := H1; clear H1; have H' := Aside0.mk H; clear H; go_wp2
           go_meet
           case rel => exact ⟨_,((t104 != t107)),(by first | rfl | (simp; done) | (simp [*]; done)),H',⟨by first | omega | exact Nat.le_refl _⟩,⟨by repeat (first | (with_reducible first | exact HB.out | apply below_alloc | apply pw_below_drewN | apply below_drew1) | exact HB.out)⟩⟩
          ·
           replace c25 := Bool.eq_false_iff.mpr c25; subst c25; have H1 : (laws_FnPatternsDrawn.j0 k l1 t102 t103 t104 t107 false t111 (t104 != false)) = some r := by rw [if_neg (show ¬ (false = true) by decide)] at H; exact H
           clear H; have H := H1; clear H1; have H' := Aside0.mk H; clear H; go_wp2
           go_meet
           case rel => exact ⟨_,((t104 != false)),(by first | rfl | (simp; done) | (simp [*]; done)),H',⟨by first | omega | exact Nat.le_refl _⟩,⟨by repeat (first | (with_reducible first | exact HB.out | apply below_alloc | apply pw_below_drewN | apply below_drew1) | exact HB.out)⟩⟩
        · rw [if_neg c23] at H; exact absurd H (by rw [laws_FnPatternsDrawn.j0_none]; simp)
    · rw [if_neg c19] at H; exact absurd H (by rw [laws_FnPatternsDrawn.j0_none]; simp)
  case rest =>
   clear HC12; try clear c1
   try clear c2
   try clear p2
   try clear c3
   try clear c4
   try clear c18
   try clear c18b0
   try clear c18b1
   try clear c18b2
   try clear c19
   try clear c19b0
   try clear c19b1
   try clear c20
   try clear c20b0
   try clear c20b1
   try clear c20b2
   try clear c21
   try clear c21b0
   try clear c21b1
   try clear c21b2
   try clear c22
   try clear c22b0
   try clear c22b1
   try clear c22b2
   try clear c23
   try clear c23b0
   try clear c23b1
   try clear c24
   try clear c24b0
   try clear c24b1
   try clear c24b2
   try clear c25
   obtain ⟨kq,x145_11,rfl,HA,HJ11,HB⟩ := hcut
   cases kq with
   | zero => exact absurd HA.out (by simp [laws_FnPatternsDrawn.j0])
   | succ kj11 =>
    have H := HA.out; clear HA; simp only [laws_FnPatternsDrawn.j0] at H
    by_cases c26 : x145_11 = true
    ·
     subst c26; have H1 : (none : Option Bool) = some r := by rw [if_pos rfl] at H; exact H
     exact absurd H1 (by simp)
    ·
     replace c26 := Bool.eq_false_iff.mpr c26; subst c26; have H1 : (if t108 = true then ((impl_MirrorDrawn.f kj11 t111).bind fun bt115 => ((impl_IsDrawn.f kj11 t111).bind fun bt117 => (if bt115.2 = true then (if bt115.1.toList = t102.toList then (if bt117.2 = true then (if (bt117.1 != t107) = true then none else (laws_FnPatternsDrawn.j1 kj11 l1 t102 t103 t104)) else none) else none) else none))) else (laws_FnPatternsDrawn.j1 kj11 l1 t102 t103 t104)) = some r := by rw [if_neg (show ¬ (false = true) by decide)] at H; exact H
     clear H; have H := H1; clear H1; have HC27 := Aside0.mk H; clear H
     go_upto_if 146 with (fail)
     go_cut [] from 146 to 146 (fun wc => ∃ (kq : Nat),Aside0 (laws_FnPatternsDrawn.j1 kq l1 t102 t103 t104 = some r) ∧ Aside0 (kq ≤ kj11) ∧ Aside0 (Below w.heap.size w wc))
     case first =>
      have H := HC27.out; clear HC27
      by_cases c28 : t108 = true
      ·
       subst c28; have H1 : ((impl_MirrorDrawn.f kj11 t111).bind fun bt115 => ((impl_IsDrawn.f kj11 t111).bind fun bt117 => (if bt115.2 = true then (if bt115.1.toList = t102.toList then (if bt117.2 = true then (if (bt117.1 != t107) = true then none else (laws_FnPatternsDrawn.j1 kj11 l1 t102 t103 t104)) else none) else none) else none))) = some r := by rw [if_pos rfl] at H; exact H
       clear H; have H := H1; clear H1; replace H := Option.bind_eq_some_iff.mp H; obtain ⟨⟨t115,t116⟩,A290,H⟩ := H; replace H : ((impl_IsDrawn.f kj11 t111).bind fun bt117 => (if t116 = true then (if t115.toList = t102.toList then (if bt117.2 = true then (if (bt117.1 != t107) = true then none else (laws_FnPatternsDrawn.j1 kj11 l1 t102 t103 t104)) else none) else none) else none)) = some r := H; have A29 := Aside0.mk A290; clear A290; replace H := Option.bind_eq_some_iff.mp H; obtain ⟨⟨t117,t118⟩,A300,H⟩ := H; replace H : (if t116 = true then (if t115.toList = t102.toList then (if t118 = true then (if (t117 != t107) = true then none else (laws_FnPatternsDrawn.j1 kj11 l1 t102 t103 t104)) else none) else none) else none) = some r := H; have A30 := Aside0.mk A300; clear A300
       by_cases c31 : t116 = true
       ·
        subst c31; have H1 : (if t115.toList = t102.toList then (if t118 = true then (if (t117 != t107) = true then none else (laws_FnPatternsDrawn.j1 kj11 l1 t102 t103 t104)) else none) else none) = some r := by rw [if_pos rfl] at H; exact H
        clear H; have H := H1; clear H1
        by_cases c32 : t115.toList = t102.toList
        ·
         rw [if_pos c32] at H; have c32b0 : (t115.toList == t102.toList) = true := beq_iff_eq.mpr c32; have c32b1 : (t115.toList != t102.toList) = false := bne_eq_false_iff_eq.mpr c32; clear c32
         (first | rw [c32b0] | (simp only [i64_w,i32_w]; rw [c32b0]) | skip)
         by_cases c33 : t118 = true
         ·
          subst c33; have H1 : (if (t117 != t107) = true then none else (laws_FnPatternsDrawn.j1 kj11 l1 t102 t103 t104)) = some r := by rw [if_pos rfl] at H; exact H
          clear H; have H := H1; clear H1
          by_cases c34 : (t117 != t107) = true
          · rw [if_pos c34] at H; exact absurd H (by simp)
          ·
           rw [if_neg c34] at H; have c34b0 : (t117 != t107) = false := by simpa using c34
           (try (have c34b1 : decide (t117 = t107) = true := by simpa using c34))
           (try (have c34b2 : (t117 == t107) = true := by simpa using c34))
           clear c34; have H' := Aside0.mk H; clear H; go_wp2_with (first | (go_at_call 10; (with_reducible refine (impl_MirrorDrawn.calls kj11 t111 t115 true _ A29.out).mono ?_); rintro e w37 ⟨rfl,hb⟩; have n0_ := Aside0.mk (below_step (by repeat (first | (with_reducible first | exact HB.out | apply below_alloc | apply pw_below_drewN | apply below_drew1) | exact HB.out)) hb); clear HB; have HB := n0_; clear n0_; (try clear hb); (try clear hb2); (try clear hk); (try clear hi)) | (go_at_call 8; (with_reducible refine (impl_IsDrawn.calls kj11 t111 t117 true _ A30.out).mono ?_); rintro e w38 ⟨rfl,hb⟩; have n0_ := Aside0.mk (below_step (by repeat (first | (with_reducible first | exact HB.out | apply below_alloc | apply pw_below_drewN | apply below_drew1) | exact HB.out)) hb); clear HB; have HB := n0_; clear n0_; (try clear hb); (try clear hb2); (try clear hk); (try clear hi)))
           go_meet
           case rel => exact ⟨_,H',⟨by have := HJ11.out; first | omega | exact Nat.le_refl _⟩,⟨by repeat (first | (with_reducible first | exact HB.out | apply below_alloc | apply pw_below_drewN | apply below_drew1) | exact HB.out)⟩⟩
         ·
          replace c33 := Bool.eq_false_iff.mpr c33; subst c33; have H1 : (none : Option Bool) = some r := by rw [if_neg (show ¬ (false = true) by decide)] at H; exact H
          exact absurd H1 (by simp)
        · rw [if_neg c32] at H; exact absurd H (by simp)
       ·
        replace c31 := Bool.eq_false_iff.mpr c31; subst c31; have H1 : (none : Option Bool) = some r := by rw [if_neg (show ¬ (false = true) by decide)] at H; exact H
        exact absurd H1 (by simp)
      ·
       replace c28 := Bool.eq_false_iff.mpr c28; subst c28; have H1 : (laws_FnPatternsDrawn.j1 kj11 l1 t102 t103 t104) = some r := by rw [if_neg (show ¬ (false = true) by decide)] at H; exact H
       clear H; have H := H1; clear H1; have H' := Aside0.mk H; clear H; go_wp2
       go_meet
       case rel => exact ⟨_,H',⟨by have := HJ11.out; first | omega | exact Nat.le_refl _⟩,⟨by repeat (first | (with_reducible first | exact HB.out | apply below_alloc | apply pw_below_drewN | apply below_drew1) | exact HB.out)⟩⟩
     case rest =>
      clear HC27; try clear c1
      try clear c2
      try clear p2
      try clear c3
      try clear c4
      try clear c18
      try clear c18b0
      try clear c18b1
      try clear c18b2
      try clear c19
      try clear c19b0
      try clear c19b1
      try clear c20
      try clear c20b0
      try clear c20b1
      try clear c20b2
      try clear c21
      try clear c21b0
      try clear c21b1
      try clear c21b2
      try clear c22
      try clear c22b0
      try clear c22b1
      try clear c22b2
      try clear c23
      try clear c23b0
      try clear c23b1
      try clear c24
      try clear c24b0
      try clear c24b1
      try clear c24b2
      try clear c25
      try clear c26
      try clear c28
      try clear c31
      try clear c32
      try clear c32b0
      try clear c32b1
      try clear c33
      try clear c34
      try clear c34b0
      try clear c34b1
      try clear c34b2
      try clear p2
      obtain ⟨kq,HA,HJ26,HB⟩ := hcut
      cases kq with
      | zero => exact absurd HA.out (by simp [laws_FnPatternsDrawn.j1])
      | succ kj26 =>
       have H := HA.out; clear HA; simp only [laws_FnPatternsDrawn.j1] at H; have HC45 := Aside0.mk H; clear H
       go_upto_if 173 with (fail)
       go_cut [] from 173 to 173 (fun wc => ∃ (kq : Nat),Aside0 (laws_FnPatternsDrawn.j5 kq l1 = some r) ∧ Aside0 (kq ≤ kj26) ∧ Aside0 (Below w.heap.size w wc))
       case first =>
        have H := HC45.out; clear HC45
        by_cases c46 : t104 = true
        ·
         subst c46; have H1 : (laws_FnPatternsDrawn.l0 kj26 l1 t102 t103 t103 0) = some r := by rw [if_pos rfl] at H; exact H
         clear H; have H := H1; clear H1; have H' := Aside0.mk H; clear H; go_wp2
         obtain ⟨g,wi,hg,hwi,IT0,IB0,HG0⟩ := iter_split (s := t103) HB.out HB.out.size; rw [← hg,← hwi]; have IT := Aside0.mk IT0; have HG := Aside0.mk HG0; clear HB IT0 HG0 hg hwi; have HB := Aside0.mk IB0; clear IB0
         go_loopg [] kj26 (fun kq w' => ∃ (x175_3 : Int),Aside0 (0 ≤ x175_3 ∧ w'.heap[g]? = some (.stringIter t103 x175_3.toNat)) ∧ Aside0 (laws_FnPatternsDrawn.l0 kq l1 t102 t103 t103 x175_3 = some r) ∧ Aside0 (kq ≤ kj26) ∧ Aside0 (Below w.heap.size w w'))
         case atStart => exact ⟨(0),⟨⟨by decide,IT.out⟩⟩,H',⟨Nat.le_refl _⟩,⟨by repeat (first | (with_reducible first | exact HB.out | apply below_alloc | apply pw_below_drewN | apply below_drew1) | exact HB.out)⟩⟩
         case round =>
          clear H' IT; try clear c1
          try clear c2
          try clear p2
          try clear c3
          try clear c4
          try clear c18
          try clear c18b0
          try clear c18b1
          try clear c18b2
          try clear c19
          try clear c19b0
          try clear c19b1
          try clear c20
          try clear c20b0
          try clear c20b1
          try clear c20b2
          try clear c21
          try clear c21b0
          try clear c21b1
          try clear c21b2
          try clear c22
          try clear c22b0
          try clear c22b1
          try clear c22b2
          try clear c23
          try clear c23b0
          try clear c23b1
          try clear c24
          try clear c24b0
          try clear c24b1
          try clear c24b2
          try clear c25
          try clear c26
          try clear c28
          try clear c31
          try clear c32
          try clear c32b0
          try clear c32b1
          try clear c33
          try clear c34
          try clear c34b0
          try clear c34b1
          try clear c34b2
          try clear c46
          try clear p2
          obtain ⟨x175_3,HIT,HA,HK3,HB⟩ := hrel
          cases gk with
          | zero => exact absurd HA.out (by simp [laws_FnPatternsDrawn.l0])
          | succ k3 =>
           have H := HA.out; clear HA; simp only [laws_FnPatternsDrawn.l0] at H
           by_cases c47 : x175_3 < (t103.size : Int)
           ·
            rw [if_pos c47] at H
            have hasc : (bt t103 x175_3) < 128 ∧ t103.size ≤ 1048576 := by
             by_cases c : (bt t103 x175_3) < 128 ∧ t103.size ≤ 1048576
             · exact c
             · rw [if_neg c] at H; cases H
            rw [if_pos hasc] at H; have hnx := fun ty => run_next_atI (P := Tryz.prog) ty HIT.out.1 HIT.out.2 c47 hasc.1
            have JT := Aside0.mk (iterAt_heap (s := t103) (pos := x175_3.toNat + 1) HIT.out.2); have JB := Aside0.mk (iterAt_below (s := t103) (pos := x175_3.toNat + 1) HB.out HG.out); have JX := Aside0.mk (show wrap64 (x175_3 + 1) = x175_3 + 1 from step_ok HIT.out.1 c47 hasc.2); have J0 := Aside0.mk HIT.out.1; clear HB HIT hasc; generalize iterAt _ g t103 (x175_3.toNat + 1) = wj at hnx JT JB; have HB := JB; clear JB; have c47b0 : decide (x175_3 < (t103.size : Int)) = true := decide_eq_true c47; clear c47
            (first | rw [c47b0] | (simp only [i64_w,i32_w]; rw [c47b0]) | skip)
            have HC48 := Aside0.mk H; clear H
            go_upto_region 21 with (fail)
            go_cut [190] from 176 to 178 (fun v190 wc => ∃ (kq : Nat) (x190_47 : Bool),v190 = .bool x190_47 ∧ Aside0 (laws_FnPatternsDrawn.j3 kq l1 t102 t103 x175_3 t103 (wrap64 (x175_3 + 1)) x190_47 = some r) ∧ Aside0 (wc.heap[g]? = some (.stringIter t103 (x175_3.toNat + 1))) ∧ Aside0 (kq ≤ k3) ∧ Aside0 (Below w.heap.size w wc))
            case first =>
             have H := HC48.out; clear HC48
             by_cases c49 : x175_3 > 0
             ·
              rw [if_pos c49] at H; have c49b0 : decide (0 < x175_3) = true := decide_eq_true c49; clear c49
              (first | rw [c49b0] | (simp only [i64_w,i32_w]; rw [c49b0]) | skip)
              obtain ⟨ji50,hji50⟩ : ∃ j_ : Int,(wrap64 (x175_3 - 1)) = j_ := ⟨_,rfl⟩; replace H : (if 0 ≤ (ji50) then (if (ji50) < (t103.size : Int) then (if 0 ≤ x175_3 then (if x175_3 < (t103.size : Int) then (laws_FnPatternsDrawn.j3 k3 l1 t102 t103 x175_3 t103 (wrap64 (x175_3 + 1)) (decide ((bt t103 (ji50)) ≥ (bt t103 x175_3)))) else (none)) else (none)) else (none)) else (none)) = some r := by first | (rw [hji50] at H; exact H) | (simp only [hji50] at H ⊢; exact H)
              have hji50w : (IntKind.i64.wrap (x175_3 - 1)) = ji50 := (i64_w _).trans hji50
              by_cases c51 : 0 ≤ (ji50)
              ·
               rw [if_pos c51] at H; have c51b0 : decide (0 ≤ (ji50)) = true := decide_eq_true c51; clear c51
               by_cases c52 : (ji50) < (t103.size : Int)
               ·
                rw [if_pos c52] at H; have c52b0 : decide ((ji50) < (t103.size : Int)) = true := decide_eq_true c52; clear c52
                by_cases c54 : 0 ≤ x175_3
                ·
                 rw [if_pos c54] at H; have c54b0 : decide (0 ≤ x175_3) = true := decide_eq_true c54; clear c54
                 by_cases c55 : x175_3 < (t103.size : Int)
                 ·
                  rw [if_pos c55] at H; have c55b0 : decide (x175_3 < (t103.size : Int)) = true := decide_eq_true c55; clear c55; have H' := Aside0.mk H; clear H; have p53 : 0 ≤ ((ji50) : Int) := of_decide_eq_true (by first | (with_reducible assumption) | assumption); have q53 : (ji50) < (t103.size : Int) := of_decide_eq_true (by first | (with_reducible assumption) | assumption); have hx53 := bt_at t103 (ji50); replace p53 := eq_true p53; replace q53 := eq_true q53; have p56 : 0 ≤ (x175_3 : Int) := of_decide_eq_true (by first | (with_reducible assumption) | assumption); have q56 : x175_3 < (t103.size : Int) := of_decide_eq_true (by first | (with_reducible assumption) | assumption); have hx56 := bt_at t103 x175_3; replace p56 := eq_true p56; replace q56 := eq_true q56; go_wp2
                  repeat (go_quiet (fail); try go_wp2)
                  go_meet
                  case rel => exact ⟨_,(decide ((bt t103 (ji50)) ≥ (bt t103 x175_3))),(by first | rfl | (simp; done) | (simp only [← hji50] <;> (first | rfl | simp)) | (simp [*]; done)),H',⟨JT.out⟩,⟨by have := HJ11.out; have := HJ26.out; have := HK3.out; first | omega | exact Nat.le_refl _⟩,⟨by repeat (first | (with_reducible first | exact HB.out | apply below_alloc | apply pw_below_drewN | apply below_drew1) | exact HB.out)⟩⟩
                 · rw [if_neg c55] at H; exact absurd H (by simp)
                · rw [if_neg c54] at H; exact absurd H (by simp)
               · rw [if_neg c52] at H; exact absurd H (by simp)
              · rw [if_neg c51] at H; exact absurd H (by simp)
             ·
              rw [if_neg c49] at H; have c49b0 : decide (0 < x175_3) = false := decide_eq_false c49; clear c49
              (first | rw [c49b0] | (simp only [i64_w,i32_w]; rw [c49b0]) | skip)
              have H' := Aside0.mk H; clear H; go_wp2
              repeat (go_quiet (fail); try go_wp2)
              go_meet
              case rel => exact ⟨_,(false),(by first | rfl | (simp; done) | (simp [*]; done)),H',⟨JT.out⟩,⟨by have := HJ11.out; have := HJ26.out; have := HK3.out; first | omega | exact Nat.le_refl _⟩,⟨by repeat (first | (with_reducible first | exact HB.out | apply below_alloc | apply pw_below_drewN | apply below_drew1) | exact HB.out)⟩⟩
            case rest =>
             clear HC48; try clear c1
             try clear c2
             try clear p2
             try clear c3
             try clear c4
             try clear c5
             try clear p5
             try clear q5
             try clear hx5
             try clear p6
             try clear c18
             try clear c18b0
             try clear c18b1
             try clear c18b2
             try clear c19
             try clear c19b0
             try clear c19b1
             try clear c20
             try clear c20b0
             try clear c20b1
             try clear c20b2
             try clear c21
             try clear c21b0
             try clear c21b1
             try clear c21b2
             try clear c22
             try clear c22b0
             try clear c22b1
             try clear c22b2
             try clear c23
             try clear c23b0
             try clear c23b1
             try clear c24
             try clear c24b0
             try clear c24b1
             try clear c24b2
             try clear c25
             try clear c26
             try clear c28
             try clear c31
             try clear c32
             try clear c32b0
             try clear c32b1
             try clear c33
             try clear c34
             try clear c34b0
             try clear c34b1
             try clear c34b2
             try clear c46
             try clear c47
             try clear c47b0
             try clear c49
             try clear c49b0
             try clear c51
             try clear c51b0
             try clear c52
             try clear c52b0
             try clear p53
             try clear q53
             try clear hx53
             try clear c54
             try clear c54b0
             try clear c55
             try clear c55b0
             try clear p56
             try clear q56
             try clear hx56
             try clear p2
             try clear p53
             try clear p56
             try clear q53
             try clear q56
             clear JT; obtain ⟨kq,x190_47,rfl,HA,JT,HJ47,HB⟩ := hcut
             cases kq with
             | zero => exact absurd HA.out (by simp [laws_FnPatternsDrawn.j3])
             | succ kj47 =>
              have H := HA.out; clear HA; simp only [laws_FnPatternsDrawn.j3] at H
              by_cases c57 : x190_47 = true
              ·
               subst c57; have H1 : (none : Option Bool) = some r := by rw [if_pos rfl] at H; exact H
               exact absurd H1 (by simp)
              ·
               replace c57 := Bool.eq_false_iff.mpr c57; subst c57; have H1 : (if 0 ≤ x175_3 then (if x175_3 ≤ (wrap64 (x175_3 + 1)) then (if (wrap64 (x175_3 + 1)) ≤ (t103.size : Int) then (if t102.size + (t103.extract (x175_3 : Int).toNat ((wrap64 (x175_3 + 1)) : Int).toNat).size ≤ 9223372036854775807 then ((impl_IsDrawn.f kj47 (t102 ++ (t103.extract (x175_3 : Int).toNat ((wrap64 (x175_3 + 1)) : Int).toNat))).bind fun bt119 => (if bt119.2 = true then (if bt119.1 = true then (laws_FnPatternsDrawn.l0 kj47 l1 t102 t103 t103 (wrap64 (x175_3 + 1))) else none) else none)) else (none)) else (none)) else (none)) else (none)) = some r := by rw [if_neg (show ¬ (false = true) by decide)] at H; exact H
               clear H; have H := H1; clear H1
               by_cases c58 : 0 ≤ x175_3
               ·
                rw [if_pos c58] at H; have c58b0 := eq_true c58; have c58b1 : decide (0 ≤ x175_3) = true := decide_eq_true c58; clear c58
                by_cases c59 : x175_3 ≤ (wrap64 (x175_3 + 1))
                ·
                 rw [if_pos c59] at H; have c59b0 := eq_true c59; have c59b1 : decide (x175_3 ≤ (wrap64 (x175_3 + 1))) = true := decide_eq_true c59
                 by_cases c60 : (wrap64 (x175_3 + 1)) ≤ (t103.size : Int)
                 ·
                  rw [if_pos c60] at H; have c60b0 := eq_true c60; have c60b1 : decide ((wrap64 (x175_3 + 1)) ≤ (t103.size : Int)) = true := decide_eq_true c60
                  by_cases c61 : t102.size + (t103.extract (x175_3 : Int).toNat ((wrap64 (x175_3 + 1)) : Int).toNat).size ≤ 9223372036854775807
                  ·
                   rw [if_pos c61] at H; have c61b0 := eq_true c61; have c61b1 : decide (t102.size + (t103.extract (x175_3 : Int).toNat ((wrap64 (x175_3 + 1)) : Int).toNat).size ≤ 9223372036854775807) = true := decide_eq_true c61; try have c61b2 : (9223372036854775807 < t102.size + (t103.extract (x175_3 : Int).toNat ((wrap64 (x175_3 + 1)) : Int).toNat).size) = False := eq_false (Nat.not_lt.2 c61)
                   replace H := Option.bind_eq_some_iff.mp H; obtain ⟨⟨t119,t120⟩,A620,H⟩ := H; replace H : (if t120 = true then (if t119 = true then (laws_FnPatternsDrawn.l0 kj47 l1 t102 t103 t103 (wrap64 (x175_3 + 1))) else none) else none) = some r := H; have A62 := Aside0.mk A620; clear A620
                   by_cases c63 : t120 = true
                   ·
                    subst c63; have H1 : (if t119 = true then (laws_FnPatternsDrawn.l0 kj47 l1 t102 t103 t103 (wrap64 (x175_3 + 1))) else none) = some r := by rw [if_pos rfl] at H; exact H
                    clear H; have H := H1; clear H1
                    by_cases c64 : t119 = true
                    ·
                     subst c64; have H1 : (laws_FnPatternsDrawn.l0 kj47 l1 t102 t103 t103 (wrap64 (x175_3 + 1))) = some r := by rw [if_pos rfl] at H; exact H
                     clear H; have H := H1; clear H1; have H' := Aside0.mk H; clear H; go_wp2_with (first | (go_at_call 8; (with_reducible refine (impl_IsDrawn.calls kj47 (t102 ++ (t103.extract (x175_3 : Int).toNat ((wrap64 (x175_3 + 1)) : Int).toNat)) true true _ A62.out).mono ?_); rintro e w65 ⟨rfl,hb⟩; have j0_ := Aside0.mk ((hb.block g (blk_lt JT.out)).trans JT.out); clear JT; have JT := j0_; clear j0_; have n0_ := Aside0.mk (below_step (by repeat (first | (with_reducible first | exact HB.out | apply below_alloc | apply pw_below_drewN | apply below_drew1) | exact HB.out)) hb); clear HB; have HB := n0_; clear n0_; (try clear hb); (try clear hb2); (try clear hk); (try clear hi)))
                     go_roundg kj47
                     case measure => have := HJ11.out; have := HJ26.out; have := HK3.out; have := HJ47.out; omega
                     case rel => exact ⟨((wrap64 (x175_3 + 1))),⟨⟨by rw [JX.out]; have := J0.out; omega,by rw [JX.out,next_nat J0.out]; exact JT.out⟩⟩,H',⟨by have := HJ11.out; have := HJ26.out; have := HK3.out; have := HJ47.out; omega⟩,⟨by repeat (first | (with_reducible first | exact HB.out | apply below_alloc | apply pw_below_drewN | apply below_drew1) | exact HB.out)⟩⟩
                    ·
                     replace c64 := Bool.eq_false_iff.mpr c64; subst c64; have H1 : (none : Option Bool) = some r := by rw [if_neg (show ¬ (false = true) by decide)] at H; exact H
                     exact absurd H1 (by simp)
                   ·
                    replace c63 := Bool.eq_false_iff.mpr c63; subst c63; have H1 : (none : Option Bool) = some r := by rw [if_neg (show ¬ (false = true) by decide)] at H; exact H
                    exact absurd H1 (by simp)
                  · rw [if_neg c61] at H; exact absurd H (by simp)
                 · rw [if_neg c60] at H; exact absurd H (by simp)
                · rw [if_neg c59] at H; exact absurd H (by simp)
               · rw [if_neg c58] at H; exact absurd H (by simp)
           ·
            rw [if_neg c47] at H; have hnx := fun ty => run_next_stopI (P := Tryz.prog) ty HIT.out.1 HIT.out.2 c47
            clear HIT HG; have c47b0 : decide (x175_3 < (t103.size : Int)) = false := decide_eq_false c47; clear c47
            (first | rw [c47b0] | (simp only [i64_w,i32_w]; rw [c47b0]) | skip)
            have HC68 := Aside0.mk H; clear H
            go_upto_region 26 with (fail)
            go_cut [223] from 176 to 178 (fun v223 wc => ∃ (kq : Nat) (x223_67 : Bool),v223 = .bool x223_67 ∧ Aside0 (laws_FnPatternsDrawn.j4 kq l1 t102 x223_67 = some r) ∧ Aside0 (kq ≤ k3) ∧ Aside0 (Below w.heap.size w wc))
            case first =>
             have H := HC68.out; clear HC68
             by_cases c69 : (t102.size : Int) < 9
             ·
              rw [if_pos c69] at H; have c69b0 : decide ((t102.size : Int) < 9) = true := decide_eq_true c69; have c69b1 : decide (t102.size < 9) = true := decide_eq_true (by omega); clear c69
              (first | rw [c69b0] | (simp only [i64_w,i32_w]; rw [c69b0]) | skip)
              by_cases c70 : (t103.size : Int) < 1
              · rw [if_pos c70] at H; exact absurd H (by rw [laws_FnPatternsDrawn.j4_none]; simp)
              ·
               rw [if_neg c70] at H; have c70b0 : decide ((t103.size : Int) < 1) = false := decide_eq_false c70; have c70b1 : decide (t103.size < 1) = false := decide_eq_false (by omega); clear c70; have H' := Aside0.mk H; clear H; go_wp2
               go_meet
               case rel => exact ⟨_,(decide ((t103.size : Int) > (wrap64 (9 - (t102.size : Int))))),(by first | rfl | (simp; done) | (simp [*]; done)),H',⟨by have := HJ11.out; have := HJ26.out; have := HK3.out; first | omega | exact Nat.le_refl _⟩,⟨by repeat (first | (with_reducible first | exact HB.out | apply below_alloc | apply pw_below_drewN | apply below_drew1) | exact HB.out)⟩⟩
             ·
              rw [if_neg c69] at H; have c69b0 : decide ((t102.size : Int) < 9) = false := decide_eq_false c69; have c69b1 : decide (t102.size < 9) = false := decide_eq_false (by omega); clear c69
              (first | rw [c69b0] | (simp only [i64_w,i32_w]; rw [c69b0]) | skip)
              have H' := Aside0.mk H; clear H; go_wp2
              go_meet
              case rel => exact ⟨_,(decide ((t103.size : Int) > (wrap64 (9 - (t102.size : Int))))),(by first | rfl | (simp; done) | (simp [*]; done)),H',⟨by have := HJ11.out; have := HJ26.out; have := HK3.out; first | omega | exact Nat.le_refl _⟩,⟨by repeat (first | (with_reducible first | exact HB.out | apply below_alloc | apply pw_below_drewN | apply below_drew1) | exact HB.out)⟩⟩
            case rest =>
             clear HC68; try clear c1
             try clear c2
             try clear p2
             try clear c3
             try clear c4
             try clear c5
             try clear p5
             try clear q5
             try clear hx5
             try clear c6
             try clear p6
             try clear c7
             try clear c18
             try clear c18b0
             try clear c18b1
             try clear c18b2
             try clear c19
             try clear c19b0
             try clear c19b1
             try clear c20
             try clear c20b0
             try clear c20b1
             try clear c20b2
             try clear c21
             try clear c21b0
             try clear c21b1
             try clear c21b2
             try clear c22
             try clear c22b0
             try clear c22b1
             try clear c22b2
             try clear c23
             try clear c23b0
             try clear c23b1
             try clear c24
             try clear c24b0
             try clear c24b1
             try clear c24b2
             try clear c25
             try clear c26
             try clear c28
             try clear c31
             try clear c32
             try clear c32b0
             try clear c32b1
             try clear c33
             try clear c34
             try clear c34b0
             try clear c34b1
             try clear c34b2
             try clear c46
             try clear c47
             try clear c47b0
             try clear c49
             try clear c49b0
             try clear c51
             try clear c51b0
             try clear c52
             try clear c52b0
             try clear p53
             try clear q53
             try clear hx53
             try clear c54
             try clear c54b0
             try clear c55
             try clear c55b0
             try clear p56
             try clear q56
             try clear hx56
             try clear c57
             try clear c58
             try clear c58b0
             try clear c58b1
             try clear c59
             try clear c59b0
             try clear c59b1
             try clear c60
             try clear c60b0
             try clear c60b1
             try clear c61
             try clear c61b0
             try clear c61b1
             try clear c61b2
             try clear c63
             try clear c64
             try clear p64
             try clear c69
             try clear c69b0
             try clear c69b1
             try clear c70
             try clear c70b0
             try clear c70b1
             try clear p2
             try clear p5
             try clear p53
             try clear p56
             try clear p6
             try clear q5
             try clear q53
             try clear q56
             obtain ⟨kq,x223_67,rfl,HA,HJ67,HB⟩ := hcut
             cases kq with
             | zero => exact absurd HA.out (by simp [laws_FnPatternsDrawn.j4])
             | succ kj67 =>
              have H := HA.out; clear HA; simp only [laws_FnPatternsDrawn.j4] at H
              by_cases c71 : x223_67 = true
              ·
               subst c71; have H1 : (none : Option Bool) = some r := by rw [if_pos rfl] at H; exact H
               exact absurd H1 (by simp)
              ·
               replace c71 := Bool.eq_false_iff.mpr c71; subst c71; have H1 : (if (t102.size : Int) > 1 then (if 0 ≤ (wrap64 ((t102.size : Int) - 1)) then (if (wrap64 ((t102.size : Int) - 1)) ≤ (t102.size : Int) then ((impl_IsDrawn.f kj67 (t102.extract 0 ((wrap64 ((t102.size : Int) - 1)) : Int).toNat)).bind fun bt121 => (if bt121.2 = true then (if bt121.1 = true then (laws_FnPatternsDrawn.j5 kj67 l1) else none) else none)) else (none)) else (none)) else (laws_FnPatternsDrawn.j5 kj67 l1)) = some r := by rw [if_neg (show ¬ (false = true) by decide)] at H; exact H
               clear H; have H := H1; clear H1
               by_cases c72 : (t102.size : Int) > 1
               ·
                rw [if_pos c72] at H; have c72b0 : decide (1 < (t102.size : Int)) = true := decide_eq_true c72; have c72b1 : decide (1 < t102.size) = true := decide_eq_true (by omega); clear c72; obtain ⟨ji73,hji73⟩ : ∃ j_ : Int,(wrap64 ((t102.size : Int) - 1)) = j_ := ⟨_,rfl⟩; replace H : (if 0 ≤ (ji73) then (if (ji73) ≤ (t102.size : Int) then ((impl_IsDrawn.f kj67 (t102.extract 0 ((ji73) : Int).toNat)).bind fun bt121 => (if bt121.2 = true then (if bt121.1 = true then (laws_FnPatternsDrawn.j5 kj67 l1) else none) else none)) else (none)) else (none)) = some r := by first | (rw [hji73] at H; exact H) | (simp only [hji73] at H ⊢; exact H)
                have hji73w : (IntKind.i64.wrap ((t102.size : Int) - 1)) = ji73 := (i64_w _).trans hji73
                by_cases c74 : 0 ≤ (ji73)
                ·
                 rw [if_pos c74] at H; have c74b0 := eq_true c74; have c74b1 : decide (0 ≤ (ji73)) = true := decide_eq_true c74; clear c74
                 by_cases c75 : (ji73) ≤ (t102.size : Int)
                 ·
                  rw [if_pos c75] at H; have c75b0 := eq_true c75; have c75b1 : decide ((ji73) ≤ (t102.size : Int)) = true := decide_eq_true c75; clear c75; replace H := Option.bind_eq_some_iff.mp H; obtain ⟨⟨t121,t122⟩,A760,H⟩ := H; replace H : (if t122 = true then (if t121 = true then (laws_FnPatternsDrawn.j5 kj67 l1) else none) else none) = some r := H; have A76 := Aside0.mk A760; clear A760
                  by_cases c77 : t122 = true
                  ·
                   subst c77; have H1 : (if t121 = true then (laws_FnPatternsDrawn.j5 kj67 l1) else none) = some r := by rw [if_pos rfl] at H; exact H
                   clear H; have H := H1; clear H1
                   by_cases c78 : t121 = true
                   ·
                    subst c78; have H1 : (laws_FnPatternsDrawn.j5 kj67 l1) = some r := by rw [if_pos rfl] at H; exact H
                    clear H; have H := H1; clear H1; have H' := Aside0.mk H; clear H; go_wp2_with (first | (go_at_call 8; (with_reducible refine (impl_IsDrawn.calls kj67 (t102.extract 0 ((ji73) : Int).toNat) true true _ A76.out).mono ?_); rintro e w79 ⟨rfl,hb⟩; have n0_ := Aside0.mk (below_step (by repeat (first | (with_reducible first | exact HB.out | apply below_alloc | apply pw_below_drewN | apply below_drew1) | exact HB.out)) hb); clear HB; have HB := n0_; clear n0_; (try clear hb); (try clear hb2); (try clear hk); (try clear hi)))
                    go_meet
                    case rel => exact ⟨_,H',⟨by have := HJ11.out; have := HJ26.out; have := HK3.out; have := HJ67.out; first | omega | exact Nat.le_refl _⟩,⟨by repeat (first | (with_reducible first | exact HB.out | apply below_alloc | apply pw_below_drewN | apply below_drew1) | exact HB.out)⟩⟩
                   ·
                    replace c78 := Bool.eq_false_iff.mpr c78; subst c78; have H1 : (none : Option Bool) = some r := by rw [if_neg (show ¬ (false = true) by decide)] at H; exact H
                    exact absurd H1 (by simp)
                  ·
                   replace c77 := Bool.eq_false_iff.mpr c77; subst c77; have H1 : (none : Option Bool) = some r := by rw [if_neg (show ¬ (false = true) by decide)] at H; exact H
                   exact absurd H1 (by simp)
                 · rw [if_neg c75] at H; exact absurd H (by simp)
                · rw [if_neg c74] at H; exact absurd H (by simp)
               ·
                rw [if_neg c72] at H; have c72b0 : decide (1 < (t102.size : Int)) = false := decide_eq_false c72; have c72b1 : decide (1 < t102.size) = false := decide_eq_false (by omega); clear c72; have H' := Aside0.mk H; clear H; go_wp2
                go_meet
                case rel => exact ⟨_,H',⟨by have := HJ11.out; have := HJ26.out; have := HK3.out; have := HJ67.out; first | omega | exact Nat.le_refl _⟩,⟨by repeat (first | (with_reducible first | exact HB.out | apply below_alloc | apply pw_below_drewN | apply below_drew1) | exact HB.out)⟩⟩
        ·
         replace c46 := Bool.eq_false_iff.mpr c46; subst c46; have H1 : (laws_FnPatternsDrawn.j5 kj26 l1) = some r := by rw [if_neg (show ¬ (false = true) by decide)] at H; exact H
         clear H; have H := H1; clear H1; have H' := Aside0.mk H; clear H; go_wp2
         go_meet
         case rel => exact ⟨_,H',⟨by have := HJ11.out; have := HJ26.out; first | omega | exact Nat.le_refl _⟩,⟨by repeat (first | (with_reducible first | exact HB.out | apply below_alloc | apply pw_below_drewN | apply below_drew1) | exact HB.out)⟩⟩
       case rest =>
        as_aux_lemma =>
         clear HC45; try clear c1
         try clear c2
         try clear p2
         try clear c3
         try clear c4
         try clear c5
         try clear p5
         try clear q5
         try clear hx5
         try clear c6
         try clear p6
         try clear c7
         try clear c18
         try clear c18b0
         try clear c18b1
         try clear c18b2
         try clear c19
         try clear c19b0
         try clear c19b1
         try clear c20
         try clear c20b0
         try clear c20b1
         try clear c20b2
         try clear c21
         try clear c21b0
         try clear c21b1
         try clear c21b2
         try clear c22
         try clear c22b0
         try clear c22b1
         try clear c22b2
         try clear c23
         try clear c23b0
         try clear c23b1
         try clear c24
         try clear c24b0
         try clear c24b1
         try clear c24b2
         try clear c25
         try clear c26
         try clear c28
         try clear c31
         try clear c32
         try clear c32b0
         try clear c32b1
         try clear c33
         try clear c34
         try clear c34b0
         try clear c34b1
         try clear c34b2
         try clear c46
         try clear c47
         try clear c47b0
         try clear c49
         try clear c49b0
         try clear c51
         try clear c51b0
         try clear c52
         try clear c52b0
         try clear p53
         try clear q53
         try clear hx53
         try clear c54
         try clear c54b0
         try clear c55
         try clear c55b0
         try clear p56
         try clear q56
         try clear hx56
         try clear c57
         try clear c58
         try clear c58b0
         try clear c58b1
         try clear c59
         try clear c59b0
         try clear c59b1
         try clear c60
         try clear c60b0
         try clear c60b1
         try clear c61
         try clear c61b0
         try clear c61b1
         try clear c61b2
         try clear c63
         try clear c64
         try clear p64
         try clear c69
         try clear c69b0
         try clear c69b1
         try clear c70
         try clear c70b0
         try clear c70b1
         try clear c71
         try clear c72
         try clear c72b0
         try clear c72b1
         try clear c74
         try clear c74b0
         try clear c74b1
         try clear c75
         try clear c75b0
         try clear c75b1
         try clear c77
         try clear c78
         try clear p2
         try clear p5
         try clear p53
         try clear p56
         try clear p6
         try clear p64
         try clear q5
         try clear q53
         try clear q56
         obtain ⟨kq,HA,HJ44,HB⟩ := hcut
         cases kq with
         | zero => exact absurd HA.out (by simp [laws_FnPatternsDrawn.j5])
         | succ kj44 =>
          have H := HA.out; clear HA; simp only [laws_FnPatternsDrawn.j5] at H; replace H := Option.bind_eq_some_iff.mp H; obtain ⟨⟨t123,t124⟩,A820,H⟩ := H; replace H : ((impl_CountDrawn.f kj44 t123 t124).bind fun bt125 => ((spec_CountDrawn.f kj44 t123 t124).bind fun bt127 => ((impl_FirstDrawn.f kj44 t123 t124).bind fun bt129 => ((spec_FirstDrawn.f kj44 t123 t124).bind fun bt131 => ((spec_DrawCountAllDrawn.f l1).bind fun t133 => ((impl_CountAllDrawn.f kj44 t133).bind fun bt134 => ((spec_CountAllDrawn.f kj44 t133).bind fun bt136 => ((spec_DrawWheelTurns.f kj44 l1).bind fun bt138 => ((impl_WheelTurns.f kj44 bt138.1 bt138.2).bind fun bt140 => ((spec_WheelTurns.f kj44 bt138.1 bt138.2).bind fun bt142 => ((spec_DrawTurnWheel.f kj44 l1).bind fun bt144 => ((impl_TurnWheel.f bt144.1 bt144.2.1 bt144.2.2).bind fun bt147 => ((spec_TurnWheel.f kj44 bt144.1 bt144.2.1 bt144.2.2).bind fun bt149 => (if (bt125.2 != bt127.2) = true then (laws_FnPatternsDrawn.j6 kj44 t123 t124 bt125.1 bt125.2 bt129.1 bt129.2 t133 bt134.1 bt134.2 bt138.1 bt138.2 bt140.1 bt140.2 bt144.1 bt144.2.1 bt144.2.2 bt147.1 bt147.2 true) else (if bt125.1 = bt127.1 then (if (bt129.2 != bt131.2) = true then (laws_FnPatternsDrawn.j6 kj44 t123 t124 bt125.1 bt125.2 bt129.1 bt129.2 t133 bt134.1 bt134.2 bt138.1 bt138.2 bt140.1 bt140.2 bt144.1 bt144.2.1 bt144.2.2 bt147.1 bt147.2 true) else (if bt129.1.toList = bt131.1.toList then (if (bt134.2 != bt136.2) = true then (laws_FnPatternsDrawn.j6 kj44 t123 t124 bt125.1 bt125.2 bt129.1 bt129.2 t133 bt134.1 bt134.2 bt138.1 bt138.2 bt140.1 bt140.2 bt144.1 bt144.2.1 bt144.2.2 bt147.1 bt147.2 true) else (if bt134.1 = bt136.1 then (if (bt140.2 != bt142.2) = true then (laws_FnPatternsDrawn.j6 kj44 t123 t124 bt125.1 bt125.2 bt129.1 bt129.2 t133 bt134.1 bt134.2 bt138.1 bt138.2 bt140.1 bt140.2 bt144.1 bt144.2.1 bt144.2.2 bt147.1 bt147.2 true) else (if bt140.1 = bt142.1 then (if (bt147.2 != bt149.2) = true then (laws_FnPatternsDrawn.j6 kj44 t123 t124 bt125.1 bt125.2 bt129.1 bt129.2 t133 bt134.1 bt134.2 bt138.1 bt138.2 bt140.1 bt140.2 bt144.1 bt144.2.1 bt144.2.2 bt147.1 bt147.2 true) else (if bt147.1.toList = bt149.1.toList then (if bt125.2 = true then (laws_FnPatternsDrawn.j6 kj44 t123 t124 bt125.1 bt125.2 bt129.1 bt129.2 t133 bt134.1 bt134.2 bt138.1 bt138.2 bt140.1 bt140.2 bt144.1 bt144.2.1 bt144.2.2 bt147.1 bt147.2 (bt129.2 != (decide (bt125.1 > 0)))) else (laws_FnPatternsDrawn.j6 kj44 t123 t124 bt125.1 bt125.2 bt129.1 bt129.2 t133 bt134.1 bt134.2 bt138.1 bt138.2 bt140.1 bt140.2 bt144.1 bt144.2.1 bt144.2.2 bt147.1 bt147.2 (bt129.2 != false))) else (laws_FnPatternsDrawn.j6 kj44 t123 t124 bt125.1 bt125.2 bt129.1 bt129.2 t133 bt134.1 bt134.2 bt138.1 bt138.2 bt140.1 bt140.2 bt144.1 bt144.2.1 bt144.2.2 bt147.1 bt147.2 true))) else (laws_FnPatternsDrawn.j6 kj44 t123 t124 bt125.1 bt125.2 bt129.1 bt129.2 t133 bt134.1 bt134.2 bt138.1 bt138.2 bt140.1 bt140.2 bt144.1 bt144.2.1 bt144.2.2 bt147.1 bt147.2 true))) else (laws_FnPatternsDrawn.j6 kj44 t123 t124 bt125.1 bt125.2 bt129.1 bt129.2 t133 bt134.1 bt134.2 bt138.1 bt138.2 bt140.1 bt140.2 bt144.1 bt144.2.1 bt144.2.2 bt147.1 bt147.2 true))) else (laws_FnPatternsDrawn.j6 kj44 t123 t124 bt125.1 bt125.2 bt129.1 bt129.2 t133 bt134.1 bt134.2 bt138.1 bt138.2 bt140.1 bt140.2 bt144.1 bt144.2.1 bt144.2.2 bt147.1 bt147.2 true))) else (laws_FnPatternsDrawn.j6 kj44 t123 t124 bt125.1 bt125.2 bt129.1 bt129.2 t133 bt134.1 bt134.2 bt138.1 bt138.2 bt140.1 bt140.2 bt144.1 bt144.2.1 bt144.2.2 bt147.1 bt147.2 true)))))))))))))))) = some r := H; have A82 := Aside0.mk A820; clear A820; replace H := Option.bind_eq_some_iff.mp H; obtain ⟨⟨t125,t126⟩,A830,H⟩ := H; replace H : ((spec_CountDrawn.f kj44 t123 t124).bind fun bt127 => ((impl_FirstDrawn.f kj44 t123 t124).bind fun bt129 => ((spec_FirstDrawn.f kj44 t123 t124).bind fun bt131 => ((spec_DrawCountAllDrawn.f l1).bind fun t133 => ((impl_CountAllDrawn.f kj44 t133).bind fun bt134 => ((spec_CountAllDrawn.f kj44 t133).bind fun bt136 => ((spec_DrawWheelTurns.f kj44 l1).bind fun bt138 => ((impl_WheelTurns.f kj44 bt138.1 bt138.2).bind fun bt140 => ((spec_WheelTurns.f kj44 bt138.1 bt138.2).bind fun bt142 => ((spec_DrawTurnWheel.f kj44 l1).bind fun bt144 => ((impl_TurnWheel.f bt144.1 bt144.2.1 bt144.2.2).bind fun bt147 => ((spec_TurnWheel.f kj44 bt144.1 bt144.2.1 bt144.2.2).bind fun bt149 => (if (t126 != bt127.2) = true then (laws_FnPatternsDrawn.j6 kj44 t123 t124 t125 t126 bt129.1 bt129.2 t133 bt134.1 bt134.2 bt138.1 bt138.2 bt140.1 bt140.2 bt144.1 bt144.2.1 bt144.2.2 bt147.1 bt147.2 true) else (if t125 = bt127.1 then (if (bt129.2 != bt131.2) = true then (laws_FnPatternsDrawn.j6 kj44 t123 t124 t125 t126 bt129.1 bt129.2 t133 bt134.1 bt134.2 bt138.1 bt138.2 bt140.1 bt140.2 bt144.1 bt144.2.1 bt144.2.2 bt147.1 bt147.2 true) else (if bt129.1.toList = bt131.1.toList then (if (bt134.2 != bt136.2) = true then (laws_FnPatternsDrawn.j6 kj44 t123 t124 t125 t126 bt129.1 bt129.2 t133 bt134.1 bt134.2 bt138.1 bt138.2 bt140.1 bt140.2 bt144.1 bt144.2.1 bt144.2.2 bt147.1 bt147.2 true) else (if bt134.1 = bt136.1 then (if (bt140.2 != bt142.2) = true then (laws_FnPatternsDrawn.j6 kj44 t123 t124 t125 t126 bt129.1 bt129.2 t133 bt134.1 bt134.2 bt138.1 bt138.2 bt140.1 bt140.2 bt144.1 bt144.2.1 bt144.2.2 bt147.1 bt147.2 true) else (if bt140.1 = bt142.1 then (if (bt147.2 != bt149.2) = true then (laws_FnPatternsDrawn.j6 kj44 t123 t124 t125 t126 bt129.1 bt129.2 t133 bt134.1 bt134.2 bt138.1 bt138.2 bt140.1 bt140.2 bt144.1 bt144.2.1 bt144.2.2 bt147.1 bt147.2 true) else (if bt147.1.toList = bt149.1.toList then (if t126 = true then (laws_FnPatternsDrawn.j6 kj44 t123 t124 t125 t126 bt129.1 bt129.2 t133 bt134.1 bt134.2 bt138.1 bt138.2 bt140.1 bt140.2 bt144.1 bt144.2.1 bt144.2.2 bt147.1 bt147.2 (bt129.2 != (decide (t125 > 0)))) else (laws_FnPatternsDrawn.j6 kj44 t123 t124 t125 t126 bt129.1 bt129.2 t133 bt134.1 bt134.2 bt138.1 bt138.2 bt140.1 bt140.2 bt144.1 bt144.2.1 bt144.2.2 bt147.1 bt147.2 (bt129.2 != false))) else (laws_FnPatternsDrawn.j6 kj44 t123 t124 t125 t126 bt129.1 bt129.2 t133 bt134.1 bt134.2 bt138.1 bt138.2 bt140.1 bt140.2 bt144.1 bt144.2.1 bt144.2.2 bt147.1 bt147.2 true))) else (laws_FnPatternsDrawn.j6 kj44 t123 t124 t125 t126 bt129.1 bt129.2 t133 bt134.1 bt134.2 bt138.1 bt138.2 bt140.1 bt140.2 bt144.1 bt144.2.1 bt144.2.2 bt147.1 bt147.2 true))) else (laws_FnPatternsDrawn.j6 kj44 t123 t124 t125 t126 bt129.1 bt129.2 t133 bt134.1 bt134.2 bt138.1 bt138.2 bt140.1 bt140.2 bt144.1 bt144.2.1 bt144.2.2 bt147.1 bt147.2 true))) else (laws_FnPatternsDrawn.j6 kj44 t123 t124 t125 t126 bt129.1 bt129.2 t133 bt134.1 bt134.2 bt138.1 bt138.2 bt140.1 bt140.2 bt144.1 bt144.2.1 bt144.2.2 bt147.1 bt147.2 true))) else (laws_FnPatternsDrawn.j6 kj44 t123 t124 t125 t126 bt129.1 bt129.2 t133 bt134.1 bt134.2 bt138.1 bt138.2 bt140.1 bt140.2 bt144.1 bt144.2.1 bt144.2.2 bt147.1 bt147.2 true))))))))))))))) = some r := H; have A83 := Aside0.mk A830; clear A830; replace H := Option.bind_eq_some_iff.mp H; obtain ⟨⟨t127,t128⟩,A840,H⟩ := H; replace H : ((impl_FirstDrawn.f kj44 t123 t124).bind fun bt129 => ((spec_FirstDrawn.f kj44 t123 t124).bind fun bt131 => ((spec_DrawCountAllDrawn.f l1).bind fun t133 => ((impl_CountAllDrawn.f kj44 t133).bind fun bt134 => ((spec_CountAllDrawn.f kj44 t133).bind fun bt136 => ((spec_DrawWheelTurns.f kj44 l1).bind fun bt138 => ((impl_WheelTurns.f kj44 bt138.1 bt138.2).bind fun bt140 => ((spec_WheelTurns.f kj44 bt138.1 bt138.2).bind fun bt142 => ((spec_DrawTurnWheel.f kj44 l1).bind fun bt144 => ((impl_TurnWheel.f bt144.1 bt144.2.1 bt144.2.2).bind fun bt147 => ((spec_TurnWheel.f kj44 bt144.1 bt144.2.1 bt144.2.2).bind fun bt149 => (if (t126 != t128) = true then (laws_FnPatternsDrawn.j6 kj44 t123 t124 t125 t126 bt129.1 bt129.2 t133 bt134.1 bt134.2 bt138.1 bt138.2 bt140.1 bt140.2 bt144.1 bt144.2.1 bt144.2.2 bt147.1 bt147.2 true) else (if t125 = t127 then (if (bt129.2 != bt131.2) = true then (laws_FnPatternsDrawn.j6 kj44 t123 t124 t125 t126 bt129.1 bt129.2 t133 bt134.1 bt134.2 bt138.1 bt138.2 bt140.1 bt140.2 bt144.1 bt144.2.1 bt144.2.2 bt147.1 bt147.2 true) else (if bt129.1.toList = bt131.1.toList then (if (bt134.2 != bt136.2) = true then (laws_FnPatternsDrawn.j6 kj44 t123 t124 t125 t126 bt129.1 bt129.2 t133 bt134.1 bt134.2 bt138.1 bt138.2 bt140.1 bt140.2 bt144.1 bt144.2.1 bt144.2.2 bt147.1 bt147.2 true) else (if bt134.1 = bt136.1 then (if (bt140.2 != bt142.2) = true then (laws_FnPatternsDrawn.j6 kj44 t123 t124 t125 t126 bt129.1 bt129.2 t133 bt134.1 bt134.2 bt138.1 bt138.2 bt140.1 bt140.2 bt144.1 bt144.2.1 bt144.2.2 bt147.1 bt147.2 true) else (if bt140.1 = bt142.1 then (if (bt147.2 != bt149.2) = true then (laws_FnPatternsDrawn.j6 kj44 t123 t124 t125 t126 bt129.1 bt129.2 t133 bt134.1 bt134.2 bt138.1 bt138.2 bt140.1 bt140.2 bt144.1 bt144.2.1 bt144.2.2 bt147.1 bt147.2 true) else (if bt147.1.toList = bt149.1.toList then (if t126 = true then (laws_FnPatternsDrawn.j6 kj44 t123 t124 t125 t126 bt129.1 bt129.2 t133 bt134.1 bt134.2 bt138.1 bt138.2 bt140.1 bt140.2 bt144.1 bt144.2.1 bt144.2.2 bt147.1 bt147.2 (bt129.2 != (decide (t125 > 0)))) else (laws_FnPatternsDrawn.j6 kj44 t123 t124 t125 t126 bt129.1 bt129.2 t133 bt134.1 bt134.2 bt138.1 bt138.2 bt140.1 bt140.2 bt144.1 bt144.2.1 bt144.2.2 bt147.1 bt147.2 (bt129.2 != false))) else (laws_FnPatternsDrawn.j6 kj44 t123 t124 t125 t126 bt129.1 bt129.2 t133 bt134.1 bt134.2 bt138.1 bt138.2 bt140.1 bt140.2 bt144.1 bt144.2.1 bt144.2.2 bt147.1 bt147.2 true))) else (laws_FnPatternsDrawn.j6 kj44 t123 t124 t125 t126 bt129.1 bt129.2 t133 bt134.1 bt134.2 bt138.1 bt138.2 bt140.1 bt140.2 bt144.1 bt144.2.1 bt144.2.2 bt147.1 bt147.2 true))) else (laws_FnPatternsDrawn.j6 kj44 t123 t124 t125 t126 bt129.1 bt129.2 t133 bt134.1 bt134.2 bt138.1 bt138.2 bt140.1 bt140.2 bt144.1 bt144.2.1 bt144.2.2 bt147.1 bt147.2 true))) else (laws_FnPatternsDrawn.j6 kj44 t123 t124 t125 t126 bt129.1 bt129.2 t133 bt134.1 bt134.2 bt138.1 bt138.2 bt140.1 bt140.2 bt144.1 bt144.2.1 bt144.2.2 bt147.1 bt147.2 true))) else (laws_FnPatternsDrawn.j6 kj44 t123 t124 t125 t126 bt129.1 bt129.2 t133 bt134.1 bt134.2 bt138.1 bt138.2 bt140.1 bt140.2 bt144.1 bt144.2.1 bt144.2.2 bt147.1 bt147.2 true)))))))))))))) = some r := H; have A84 := Aside0.mk A840; clear A840; replace H := Option.bind_eq_some_iff.mp H; obtain ⟨⟨t129,t130⟩,A850,H⟩ := H; replace H : ((spec_FirstDrawn.f kj44 t123 t124).bind fun bt131 => ((spec_DrawCountAllDrawn.f l1).bind fun t133 => ((impl_CountAllDrawn.f kj44 t133).bind fun bt134 => ((spec_CountAllDrawn.f kj44 t133).bind fun bt136 => ((spec_DrawWheelTurns.f kj44 l1).bind fun bt138 => ((impl_WheelTurns.f kj44 bt138.1 bt138.2).bind fun bt140 => ((spec_WheelTurns.f kj44 bt138.1 bt138.2).bind fun bt142 => ((spec_DrawTurnWheel.f kj44 l1).bind fun bt144 => ((impl_TurnWheel.f bt144.1 bt144.2.1 bt144.2.2).bind fun bt147 => ((spec_TurnWheel.f kj44 bt144.1 bt144.2.1 bt144.2.2).bind fun bt149 => (if (t126 != t128) = true then (laws_FnPatternsDrawn.j6 kj44 t123 t124 t125 t126 t129 t130 t133 bt134.1 bt134.2 bt138.1 bt138.2 bt140.1 bt140.2 bt144.1 bt144.2.1 bt144.2.2 bt147.1 bt147.2 true) else (if t125 = t127 then (if (t130 != bt131.2) = true then (laws_FnPatternsDrawn.j6 kj44 t123 t124 t125 t126 t129 t130 t133 bt134.1 bt134.2 bt138.1 bt138.2 bt140.1 bt140.2 bt144.1 bt144.2.1 bt144.2.2 bt147.1 bt147.2 true) else (if t129.toList = bt131.1.toList then (if (bt134.2 != bt136.2) = true then (laws_FnPatternsDrawn.j6 kj44 t123 t124 t125 t126 t129 t130 t133 bt134.1 bt134.2 bt138.1 bt138.2 bt140.1 bt140.2 bt144.1 bt144.2.1 bt144.2.2 bt147.1 bt147.2 true) else (if bt134.1 = bt136.1 then (if (bt140.2 != bt142.2) = true then (laws_FnPatternsDrawn.j6 kj44 t123 t124 t125 t126 t129 t130 t133 bt134.1 bt134.2 bt138.1 bt138.2 bt140.1 bt140.2 bt144.1 bt144.2.1 bt144.2.2 bt147.1 bt147.2 true) else (if bt140.1 = bt142.1 then (if (bt147.2 != bt149.2) = true then (laws_FnPatternsDrawn.j6 kj44 t123 t124 t125 t126 t129 t130 t133 bt134.1 bt134.2 bt138.1 bt138.2 bt140.1 bt140.2 bt144.1 bt144.2.1 bt144.2.2 bt147.1 bt147.2 true) else (if bt147.1.toList = bt149.1.toList then (if t126 = true then (laws_FnPatternsDrawn.j6 kj44 t123 t124 t125 t126 t129 t130 t133 bt134.1 bt134.2 bt138.1 bt138.2 bt140.1 bt140.2 bt144.1 bt144.2.1 bt144.2.2 bt147.1 bt147.2 (t130 != (decide (t125 > 0)))) else (laws_FnPatternsDrawn.j6 kj44 t123 t124 t125 t126 t129 t130 t133 bt134.1 bt134.2 bt138.1 bt138.2 bt140.1 bt140.2 bt144.1 bt144.2.1 bt144.2.2 bt147.1 bt147.2 (t130 != false))) else (laws_FnPatternsDrawn.j6 kj44 t123 t124 t125 t126 t129 t130 t133 bt134.1 bt134.2 bt138.1 bt138.2 bt140.1 bt140.2 bt144.1 bt144.2.1 bt144.2.2 bt147.1 bt147.2 true))) else (laws_FnPatternsDrawn.j6 kj44 t123 t124 t125 t126 t129 t130 t133 bt134.1 bt134.2 bt138.1 bt138.2 bt140.1 bt140.2 bt144.1 bt144.2.1 bt144.2.2 bt147.1 bt147.2 true))) else (laws_FnPatternsDrawn.j6 kj44 t123 t124 t125 t126 t129 t130 t133 bt134.1 bt134.2 bt138.1 bt138.2 bt140.1 bt140.2 bt144.1 bt144.2.1 bt144.2.2 bt147.1 bt147.2 true))) else (laws_FnPatternsDrawn.j6 kj44 t123 t124 t125 t126 t129 t130 t133 bt134.1 bt134.2 bt138.1 bt138.2 bt140.1 bt140.2 bt144.1 bt144.2.1 bt144.2.2 bt147.1 bt147.2 true))) else (laws_FnPatternsDrawn.j6 kj44 t123 t124 t125 t126 t129 t130 t133 bt134.1 bt134.2 bt138.1 bt138.2 bt140.1 bt140.2 bt144.1 bt144.2.1 bt144.2.2 bt147.1 bt147.2 true))))))))))))) = some r := H; have A85 := Aside0.mk A850; clear A850; replace H := Option.bind_eq_some_iff.mp H; obtain ⟨⟨t131,t132⟩,A860,H⟩ := H; replace H : ((spec_DrawCountAllDrawn.f l1).bind fun t133 => ((impl_CountAllDrawn.f kj44 t133).bind fun bt134 => ((spec_CountAllDrawn.f kj44 t133).bind fun bt136 => ((spec_DrawWheelTurns.f kj44 l1).bind fun bt138 => ((impl_WheelTurns.f kj44 bt138.1 bt138.2).bind fun bt140 => ((spec_WheelTurns.f kj44 bt138.1 bt138.2).bind fun bt142 => ((spec_DrawTurnWheel.f kj44 l1).bind fun bt144 => ((impl_TurnWheel.f bt144.1 bt144.2.1 bt144.2.2).bind fun bt147 => ((spec_TurnWheel.f kj44 bt144.1 bt144.2.1 bt144.2.2).bind fun bt149 => (if (t126 != t128) = true then (laws_FnPatternsDrawn.j6 kj44 t123 t124 t125 t126 t129 t130 t133 bt134.1 bt134.2 bt138.1 bt138.2 bt140.1 bt140.2 bt144.1 bt144.2.1 bt144.2.2 bt147.1 bt147.2 true) else (if t125 = t127 then (if (t130 != t132) = true then (laws_FnPatternsDrawn.j6 kj44 t123 t124 t125 t126 t129 t130 t133 bt134.1 bt134.2 bt138.1 bt138.2 bt140.1 bt140.2 bt144.1 bt144.2.1 bt144.2.2 bt147.1 bt147.2 true) else (if t129.toList = t131.toList then (if (bt134.2 != bt136.2) = true then (laws_FnPatternsDrawn.j6 kj44 t123 t124 t125 t126 t129 t130 t133 bt134.1 bt134.2 bt138.1 bt138.2 bt140.1 bt140.2 bt144.1 bt144.2.1 bt144.2.2 bt147.1 bt147.2 true) else (if bt134.1 = bt136.1 then (if (bt140.2 != bt142.2) = true then (laws_FnPatternsDrawn.j6 kj44 t123 t124 t125 t126 t129 t130 t133 bt134.1 bt134.2 bt138.1 bt138.2 bt140.1 bt140.2 bt144.1 bt144.2.1 bt144.2.2 bt147.1 bt147.2 true) else (if bt140.1 = bt142.1 then (if (bt147.2 != bt149.2) = true then (laws_FnPatternsDrawn.j6 kj44 t123 t124 t125 t126 t129 t130 t133 bt134.1 bt134.2 bt138.1 bt138.2 bt140.1 bt140.2 bt144.1 bt144.2.1 bt144.2.2 bt147.1 bt147.2 true) else (if bt147.1.toList = bt149.1.toList then (if t126 = true then (laws_FnPatternsDrawn.j6 kj44 t123 t124 t125 t126 t129 t130 t133 bt134.1 bt134.2 bt138.1 bt138.2 bt140.1 bt140.2 bt144.1 bt144.2.1 bt144.2.2 bt147.1 bt147.2 (t130 != (decide (t125 > 0)))) else (laws_FnPatternsDrawn.j6 kj44 t123 t124 t125 t126 t129 t130 t133 bt134.1 bt134.2 bt138.1 bt138.2 bt140.1 bt140.2 bt144.1 bt144.2.1 bt144.2.2 bt147.1 bt147.2 (t130 != false))) else (laws_FnPatternsDrawn.j6 kj44 t123 t124 t125 t126 t129 t130 t133 bt134.1 bt134.2 bt138.1 bt138.2 bt140.1 bt140.2 bt144.1 bt144.2.1 bt144.2.2 bt147.1 bt147.2 true))) else (laws_FnPatternsDrawn.j6 kj44 t123 t124 t125 t126 t129 t130 t133 bt134.1 bt134.2 bt138.1 bt138.2 bt140.1 bt140.2 bt144.1 bt144.2.1 bt144.2.2 bt147.1 bt147.2 true))) else (laws_FnPatternsDrawn.j6 kj44 t123 t124 t125 t126 t129 t130 t133 bt134.1 bt134.2 bt138.1 bt138.2 bt140.1 bt140.2 bt144.1 bt144.2.1 bt144.2.2 bt147.1 bt147.2 true))) else (laws_FnPatternsDrawn.j6 kj44 t123 t124 t125 t126 t129 t130 t133 bt134.1 bt134.2 bt138.1 bt138.2 bt140.1 bt140.2 bt144.1 bt144.2.1 bt144.2.2 bt147.1 bt147.2 true))) else (laws_FnPatternsDrawn.j6 kj44 t123 t124 t125 t126 t129 t130 t133 bt134.1 bt134.2 bt138.1 bt138.2 bt140.1 bt140.2 bt144.1 bt144.2.1 bt144.2.2 bt147.1 bt147.2 true)))))))))))) = some r := H; have A86 := Aside0.mk A860; clear A860; replace H := Option.bind_eq_some_iff.mp H; obtain ⟨t133,A870,H⟩ := H; replace H : ((impl_CountAllDrawn.f kj44 t133).bind fun bt134 => ((spec_CountAllDrawn.f kj44 t133).bind fun bt136 => ((spec_DrawWheelTurns.f kj44 l1).bind fun bt138 => ((impl_WheelTurns.f kj44 bt138.1 bt138.2).bind fun bt140 => ((spec_WheelTurns.f kj44 bt138.1 bt138.2).bind fun bt142 => ((spec_DrawTurnWheel.f kj44 l1).bind fun bt144 => ((impl_TurnWheel.f bt144.1 bt144.2.1 bt144.2.2).bind fun bt147 => ((spec_TurnWheel.f kj44 bt144.1 bt144.2.1 bt144.2.2).bind fun bt149 => (if (t126 != t128) = true then (laws_FnPatternsDrawn.j6 kj44 t123 t124 t125 t126 t129 t130 t133 bt134.1 bt134.2 bt138.1 bt138.2 bt140.1 bt140.2 bt144.1 bt144.2.1 bt144.2.2 bt147.1 bt147.2 true) else (if t125 = t127 then (if (t130 != t132) = true then (laws_FnPatternsDrawn.j6 kj44 t123 t124 t125 t126 t129 t130 t133 bt134.1 bt134.2 bt138.1 bt138.2 bt140.1 bt140.2 bt144.1 bt144.2.1 bt144.2.2 bt147.1 bt147.2 true) else (if t129.toList = t131.toList then (if (bt134.2 != bt136.2) = true then (laws_FnPatternsDrawn.j6 kj44 t123 t124 t125 t126 t129 t130 t133 bt134.1 bt134.2 bt138.1 bt138.2 bt140.1 bt140.2 bt144.1 bt144.2.1 bt144.2.2 bt147.1 bt147.2 true) else (if bt134.1 = bt136.1 then (if (bt140.2 != bt142.2) = true then (laws_FnPatternsDrawn.j6 kj44 t123 t124 t125 t126 t129 t130 t133 bt134.1 bt134.2 bt138.1 bt138.2 bt140.1 bt140.2 bt144.1 bt144.2.1 bt144.2.2 bt147.1 bt147.2 true) else (if bt140.1 = bt142.1 then (if (bt147.2 != bt149.2) = true then (laws_FnPatternsDrawn.j6 kj44 t123 t124 t125 t126 t129 t130 t133 bt134.1 bt134.2 bt138.1 bt138.2 bt140.1 bt140.2 bt144.1 bt144.2.1 bt144.2.2 bt147.1 bt147.2 true) else (if bt147.1.toList = bt149.1.toList then (if t126 = true then (laws_FnPatternsDrawn.j6 kj44 t123 t124 t125 t126 t129 t130 t133 bt134.1 bt134.2 bt138.1 bt138.2 bt140.1 bt140.2 bt144.1 bt144.2.1 bt144.2.2 bt147.1 bt147.2 (t130 != (decide (t125 > 0)))) else (laws_FnPatternsDrawn.j6 kj44 t123 t124 t125 t126 t129 t130 t133 bt134.1 bt134.2 bt138.1 bt138.2 bt140.1 bt140.2 bt144.1 bt144.2.1 bt144.2.2 bt147.1 bt147.2 (t130 != false))) else (laws_FnPatternsDrawn.j6 kj44 t123 t124 t125 t126 t129 t130 t133 bt134.1 bt134.2 bt138.1 bt138.2 bt140.1 bt140.2 bt144.1 bt144.2.1 bt144.2.2 bt147.1 bt147.2 true))) else (laws_FnPatternsDrawn.j6 kj44 t123 t124 t125 t126 t129 t130 t133 bt134.1 bt134.2 bt138.1 bt138.2 bt140.1 bt140.2 bt144.1 bt144.2.1 bt144.2.2 bt147.1 bt147.2 true))) else (laws_FnPatternsDrawn.j6 kj44 t123 t124 t125 t126 t129 t130 t133 bt134.1 bt134.2 bt138.1 bt138.2 bt140.1 bt140.2 bt144.1 bt144.2.1 bt144.2.2 bt147.1 bt147.2 true))) else (laws_FnPatternsDrawn.j6 kj44 t123 t124 t125 t126 t129 t130 t133 bt134.1 bt134.2 bt138.1 bt138.2 bt140.1 bt140.2 bt144.1 bt144.2.1 bt144.2.2 bt147.1 bt147.2 true))) else (laws_FnPatternsDrawn.j6 kj44 t123 t124 t125 t126 t129 t130 t133 bt134.1 bt134.2 bt138.1 bt138.2 bt140.1 bt140.2 bt144.1 bt144.2.1 bt144.2.2 bt147.1 bt147.2 true))))))))))) = some r := H; have A87 := Aside0.mk A870; clear A870; replace H := Option.bind_eq_some_iff.mp H; obtain ⟨⟨t134,t135⟩,A880,H⟩ := H; replace H : ((spec_CountAllDrawn.f kj44 t133).bind fun bt136 => ((spec_DrawWheelTurns.f kj44 l1).bind fun bt138 => ((impl_WheelTurns.f kj44 bt138.1 bt138.2).bind fun bt140 => ((spec_WheelTurns.f kj44 bt138.1 bt138.2).bind fun bt142 => ((spec_DrawTurnWheel.f kj44 l1).bind fun bt144 => ((impl_TurnWheel.f bt144.1 bt144.2.1 bt144.2.2).bind fun bt147 => ((spec_TurnWheel.f kj44 bt144.1 bt144.2.1 bt144.2.2).bind fun bt149 => (if (t126 != t128) = true then (laws_FnPatternsDrawn.j6 kj44 t123 t124 t125 t126 t129 t130 t133 t134 t135 bt138.1 bt138.2 bt140.1 bt140.2 bt144.1 bt144.2.1 bt144.2.2 bt147.1 bt147.2 true) else (if t125 = t127 then (if (t130 != t132) = true then (laws_FnPatternsDrawn.j6 kj44 t123 t124 t125 t126 t129 t130 t133 t134 t135 bt138.1 bt138.2 bt140.1 bt140.2 bt144.1 bt144.2.1 bt144.2.2 bt147.1 bt147.2 true) else (if t129.toList = t131.toList then (if (t135 != bt136.2) = true then (laws_FnPatternsDrawn.j6 kj44 t123 t124 t125 t126 t129 t130 t133 t134 t135 bt138.1 bt138.2 bt140.1 bt140.2 bt144.1 bt144.2.1 bt144.2.2 bt147.1 bt147.2 true) else (if t134 = bt136.1 then (if (bt140.2 != bt142.2) = true then (laws_FnPatternsDrawn.j6 kj44 t123 t124 t125 t126 t129 t130 t133 t134 t135 bt138.1 bt138.2 bt140.1 bt140.2 bt144.1 bt144.2.1 bt144.2.2 bt147.1 bt147.2 true) else (if bt140.1 = bt142.1 then (if (bt147.2 != bt149.2) = true then (laws_FnPatternsDrawn.j6 kj44 t123 t124 t125 t126 t129 t130 t133 t134 t135 bt138.1 bt138.2 bt140.1 bt140.2 bt144.1 bt144.2.1 bt144.2.2 bt147.1 bt147.2 true) else (if bt147.1.toList = bt149.1.toList then (if t126 = true then (laws_FnPatternsDrawn.j6 kj44 t123 t124 t125 t126 t129 t130 t133 t134 t135 bt138.1 bt138.2 bt140.1 bt140.2 bt144.1 bt144.2.1 bt144.2.2 bt147.1 bt147.2 (t130 != (decide (t125 > 0)))) else (laws_FnPatternsDrawn.j6 kj44 t123 t124 t125 t126 t129 t130 t133 t134 t135 bt138.1 bt138.2 bt140.1 bt140.2 bt144.1 bt144.2.1 bt144.2.2 bt147.1 bt147.2 (t130 != false))) else (laws_FnPatternsDrawn.j6 kj44 t123 t124 t125 t126 t129 t130 t133 t134 t135 bt138.1 bt138.2 bt140.1 bt140.2 bt144.1 bt144.2.1 bt144.2.2 bt147.1 bt147.2 true))) else (laws_FnPatternsDrawn.j6 kj44 t123 t124 t125 t126 t129 t130 t133 t134 t135 bt138.1 bt138.2 bt140.1 bt140.2 bt144.1 bt144.2.1 bt144.2.2 bt147.1 bt147.2 true))) else (laws_FnPatternsDrawn.j6 kj44 t123 t124 t125 t126 t129 t130 t133 t134 t135 bt138.1 bt138.2 bt140.1 bt140.2 bt144.1 bt144.2.1 bt144.2.2 bt147.1 bt147.2 true))) else (laws_FnPatternsDrawn.j6 kj44 t123 t124 t125 t126 t129 t130 t133 t134 t135 bt138.1 bt138.2 bt140.1 bt140.2 bt144.1 bt144.2.1 bt144.2.2 bt147.1 bt147.2 true))) else (laws_FnPatternsDrawn.j6 kj44 t123 t124 t125 t126 t129 t130 t133 t134 t135 bt138.1 bt138.2 bt140.1 bt140.2 bt144.1 bt144.2.1 bt144.2.2 bt147.1 bt147.2 true)))))))))) = some r := H; have A88 := Aside0.mk A880; clear A880; replace H := Option.bind_eq_some_iff.mp H; obtain ⟨⟨t136,t137⟩,A890,H⟩ := H; replace H : ((spec_DrawWheelTurns.f kj44 l1).bind fun bt138 => ((impl_WheelTurns.f kj44 bt138.1 bt138.2).bind fun bt140 => ((spec_WheelTurns.f kj44 bt138.1 bt138.2).bind fun bt142 => ((spec_DrawTurnWheel.f kj44 l1).bind fun bt144 => ((impl_TurnWheel.f bt144.1 bt144.2.1 bt144.2.2).bind fun bt147 => ((spec_TurnWheel.f kj44 bt144.1 bt144.2.1 bt144.2.2).bind fun bt149 => (if (t126 != t128) = true then (laws_FnPatternsDrawn.j6 kj44 t123 t124 t125 t126 t129 t130 t133 t134 t135 bt138.1 bt138.2 bt140.1 bt140.2 bt144.1 bt144.2.1 bt144.2.2 bt147.1 bt147.2 true) else (if t125 = t127 then (if (t130 != t132) = true then (laws_FnPatternsDrawn.j6 kj44 t123 t124 t125 t126 t129 t130 t133 t134 t135 bt138.1 bt138.2 bt140.1 bt140.2 bt144.1 bt144.2.1 bt144.2.2 bt147.1 bt147.2 true) else (if t129.toList = t131.toList then (if (t135 != t137) = true then (laws_FnPatternsDrawn.j6 kj44 t123 t124 t125 t126 t129 t130 t133 t134 t135 bt138.1 bt138.2 bt140.1 bt140.2 bt144.1 bt144.2.1 bt144.2.2 bt147.1 bt147.2 true) else (if t134 = t136 then (if (bt140.2 != bt142.2) = true then (laws_FnPatternsDrawn.j6 kj44 t123 t124 t125 t126 t129 t130 t133 t134 t135 bt138.1 bt138.2 bt140.1 bt140.2 bt144.1 bt144.2.1 bt144.2.2 bt147.1 bt147.2 true) else (if bt140.1 = bt142.1 then (if (bt147.2 != bt149.2) = true then (laws_FnPatternsDrawn.j6 kj44 t123 t124 t125 t126 t129 t130 t133 t134 t135 bt138.1 bt138.2 bt140.1 bt140.2 bt144.1 bt144.2.1 bt144.2.2 bt147.1 bt147.2 true) else (if bt147.1.toList = bt149.1.toList then (if t126 = true then (laws_FnPatternsDrawn.j6 kj44 t123 t124 t125 t126 t129 t130 t133 t134 t135 bt138.1 bt138.2 bt140.1 bt140.2 bt144.1 bt144.2.1 bt144.2.2 bt147.1 bt147.2 (t130 != (decide (t125 > 0)))) else (laws_FnPatternsDrawn.j6 kj44 t123 t124 t125 t126 t129 t130 t133 t134 t135 bt138.1 bt138.2 bt140.1 bt140.2 bt144.1 bt144.2.1 bt144.2.2 bt147.1 bt147.2 (t130 != false))) else (laws_FnPatternsDrawn.j6 kj44 t123 t124 t125 t126 t129 t130 t133 t134 t135 bt138.1 bt138.2 bt140.1 bt140.2 bt144.1 bt144.2.1 bt144.2.2 bt147.1 bt147.2 true))) else (laws_FnPatternsDrawn.j6 kj44 t123 t124 t125 t126 t129 t130 t133 t134 t135 bt138.1 bt138.2 bt140.1 bt140.2 bt144.1 bt144.2.1 bt144.2.2 bt147.1 bt147.2 true))) else (laws_FnPatternsDrawn.j6 kj44 t123 t124 t125 t126 t129 t130 t133 t134 t135 bt138.1 bt138.2 bt140.1 bt140.2 bt144.1 bt144.2.1 bt144.2.2 bt147.1 bt147.2 true))) else (laws_FnPatternsDrawn.j6 kj44 t123 t124 t125 t126 t129 t130 t133 t134 t135 bt138.1 bt138.2 bt140.1 bt140.2 bt144.1 bt144.2.1 bt144.2.2 bt147.1 bt147.2 true))) else (laws_FnPatternsDrawn.j6 kj44 t123 t124 t125 t126 t129 t130 t133 t134 t135 bt138.1 bt138.2 bt140.1 bt140.2 bt144.1 bt144.2.1 bt144.2.2 bt147.1 bt147.2 true))))))))) = some r := H; have A89 := Aside0.mk A890; clear A890; replace H := Option.bind_eq_some_iff.mp H; obtain ⟨⟨t138,t139⟩,A900,H⟩ := H; replace H : ((impl_WheelTurns.f kj44 t138 t139).bind fun bt140 => ((spec_WheelTurns.f kj44 t138 t139).bind fun bt142 => ((spec_DrawTurnWheel.f kj44 l1).bind fun bt144 => ((impl_TurnWheel.f bt144.1 bt144.2.1 bt144.2.2).bind fun bt147 => ((spec_TurnWheel.f kj44 bt144.1 bt144.2.1 bt144.2.2).bind fun bt149 => (if (t126 != t128) = true then (laws_FnPatternsDrawn.j6 kj44 t123 t124 t125 t126 t129 t130 t133 t134 t135 t138 t139 bt140.1 bt140.2 bt144.1 bt144.2.1 bt144.2.2 bt147.1 bt147.2 true) else (if t125 = t127 then (if (t130 != t132) = true then (laws_FnPatternsDrawn.j6 kj44 t123 t124 t125 t126 t129 t130 t133 t134 t135 t138 t139 bt140.1 bt140.2 bt144.1 bt144.2.1 bt144.2.2 bt147.1 bt147.2 true) else (if t129.toList = t131.toList then (if (t135 != t137) = true then (laws_FnPatternsDrawn.j6 kj44 t123 t124 t125 t126 t129 t130 t133 t134 t135 t138 t139 bt140.1 bt140.2 bt144.1 bt144.2.1 bt144.2.2 bt147.1 bt147.2 true) else (if t134 = t136 then (if (bt140.2 != bt142.2) = true then (laws_FnPatternsDrawn.j6 kj44 t123 t124 t125 t126 t129 t130 t133 t134 t135 t138 t139 bt140.1 bt140.2 bt144.1 bt144.2.1 bt144.2.2 bt147.1 bt147.2 true) else (if bt140.1 = bt142.1 then (if (bt147.2 != bt149.2) = true then (laws_FnPatternsDrawn.j6 kj44 t123 t124 t125 t126 t129 t130 t133 t134 t135 t138 t139 bt140.1 bt140.2 bt144.1 bt144.2.1 bt144.2.2 bt147.1 bt147.2 true) else (if bt147.1.toList = bt149.1.toList then (if t126 = true then (laws_FnPatternsDrawn.j6 kj44 t123 t124 t125 t126 t129 t130 t133 t134 t135 t138 t139 bt140.1 bt140.2 bt144.1 bt144.2.1 bt144.2.2 bt147.1 bt147.2 (t130 != (decide (t125 > 0)))) else (laws_FnPatternsDrawn.j6 kj44 t123 t124 t125 t126 t129 t130 t133 t134 t135 t138 t139 bt140.1 bt140.2 bt144.1 bt144.2.1 bt144.2.2 bt147.1 bt147.2 (t130 != false))) else (laws_FnPatternsDrawn.j6 kj44 t123 t124 t125 t126 t129 t130 t133 t134 t135 t138 t139 bt140.1 bt140.2 bt144.1 bt144.2.1 bt144.2.2 bt147.1 bt147.2 true))) else (laws_FnPatternsDrawn.j6 kj44 t123 t124 t125 t126 t129 t130 t133 t134 t135 t138 t139 bt140.1 bt140.2 bt144.1 bt144.2.1 bt144.2.2 bt147.1 bt147.2 true))) else (laws_FnPatternsDrawn.j6 kj44 t123 t124 t125 t126 t129 t130 t133 t134 t135 t138 t139 bt140.1 bt140.2 bt144.1 bt144.2.1 bt144.2.2 bt147.1 bt147.2 true))) else (laws_FnPatternsDrawn.j6 kj44 t123 t124 t125 t126 t129 t130 t133 t134 t135 t138 t139 bt140.1 bt140.2 bt144.1 bt144.2.1 bt144.2.2 bt147.1 bt147.2 true))) else (laws_FnPatternsDrawn.j6 kj44 t123 t124 t125 t126 t129 t130 t133 t134 t135 t138 t139 bt140.1 bt140.2 bt144.1 bt144.2.1 bt144.2.2 bt147.1 bt147.2 true)))))))) = some r := H; have A90 := Aside0.mk A900; clear A900; replace H := Option.bind_eq_some_iff.mp H; obtain ⟨⟨t140,t141⟩,A910,H⟩ := H; replace H : ((spec_WheelTurns.f kj44 t138 t139).bind fun bt142 => ((spec_DrawTurnWheel.f kj44 l1).bind fun bt144 => ((impl_TurnWheel.f bt144.1 bt144.2.1 bt144.2.2).bind fun bt147 => ((spec_TurnWheel.f kj44 bt144.1 bt144.2.1 bt144.2.2).bind fun bt149 => (if (t126 != t128) = true then (laws_FnPatternsDrawn.j6 kj44 t123 t124 t125 t126 t129 t130 t133 t134 t135 t138 t139 t140 t141 bt144.1 bt144.2.1 bt144.2.2 bt147.1 bt147.2 true) else (if t125 = t127 then (if (t130 != t132) = true then (laws_FnPatternsDrawn.j6 kj44 t123 t124 t125 t126 t129 t130 t133 t134 t135 t138 t139 t140 t141 bt144.1 bt144.2.1 bt144.2.2 bt147.1 bt147.2 true) else (if t129.toList = t131.toList then (if (t135 != t137) = true then (laws_FnPatternsDrawn.j6 kj44 t123 t124 t125 t126 t129 t130 t133 t134 t135 t138 t139 t140 t141 bt144.1 bt144.2.1 bt144.2.2 bt147.1 bt147.2 true) else (if t134 = t136 then (if (t141 != bt142.2) = true then (laws_FnPatternsDrawn.j6 kj44 t123 t124 t125 t126 t129 t130 t133 t134 t135 t138 t139 t140 t141 bt144.1 bt144.2.1 bt144.2.2 bt147.1 bt147.2 true) else (if t140 = bt142.1 then (if (bt147.2 != bt149.2) = true then (laws_FnPatternsDrawn.j6 kj44 t123 t124 t125 t126 t129 t130 t133 t134 t135 t138 t139 t140 t141 bt144.1 bt144.2.1 bt144.2.2 bt147.1 bt147.2 true) else (if bt147.1.toList = bt149.1.toList then (if t126 = true then (laws_FnPatternsDrawn.j6 kj44 t123 t124 t125 t126 t129 t130 t133 t134 t135 t138 t139 t140 t141 bt144.1 bt144.2.1 bt144.2.2 bt147.1 bt147.2 (t130 != (decide (t125 > 0)))) else (laws_FnPatternsDrawn.j6 kj44 t123 t124 t125 t126 t129 t130 t133 t134 t135 t138 t139 t140 t141 bt144.1 bt144.2.1 bt144.2.2 bt147.1 bt147.2 (t130 != false))) else (laws_FnPatternsDrawn.j6 kj44 t123 t124 t125 t126 t129 t130 t133 t134 t135 t138 t139 t140 t141 bt144.1 bt144.2.1 bt144.2.2 bt147.1 bt147.2 true))) else (laws_FnPatternsDrawn.j6 kj44 t123 t124 t125 t126 t129 t130 t133 t134 t135 t138 t139 t140 t141 bt144.1 bt144.2.1 bt144.2.2 bt147.1 bt147.2 true))) else (laws_FnPatternsDrawn.j6 kj44 t123 t124 t125 t126 t129 t130 t133 t134 t135 t138 t139 t140 t141 bt144.1 bt144.2.1 bt144.2.2 bt147.1 bt147.2 true))) else (laws_FnPatternsDrawn.j6 kj44 t123 t124 t125 t126 t129 t130 t133 t134 t135 t138 t139 t140 t141 bt144.1 bt144.2.1 bt144.2.2 bt147.1 bt147.2 true))) else (laws_FnPatternsDrawn.j6 kj44 t123 t124 t125 t126 t129 t130 t133 t134 t135 t138 t139 t140 t141 bt144.1 bt144.2.1 bt144.2.2 bt147.1 bt147.2 true))))))) = some r := H; have A91 := Aside0.mk A910; clear A910; replace H := Option.bind_eq_some_iff.mp H; obtain ⟨⟨t142,t143⟩,A920,H⟩ := H; replace H : ((spec_DrawTurnWheel.f kj44 l1).bind fun bt144 => ((impl_TurnWheel.f bt144.1 bt144.2.1 bt144.2.2).bind fun bt147 => ((spec_TurnWheel.f kj44 bt144.1 bt144.2.1 bt144.2.2).bind fun bt149 => (if (t126 != t128) = true then (laws_FnPatternsDrawn.j6 kj44 t123 t124 t125 t126 t129 t130 t133 t134 t135 t138 t139 t140 t141 bt144.1 bt144.2.1 bt144.2.2 bt147.1 bt147.2 true) else (if t125 = t127 then (if (t130 != t132) = true then (laws_FnPatternsDrawn.j6 kj44 t123 t124 t125 t126 t129 t130 t133 t134 t135 t138 t139 t140 t141 bt144.1 bt144.2.1 bt144.2.2 bt147.1 bt147.2 true) else (if t129.toList = t131.toList then (if (t135 != t137) = true then (laws_FnPatternsDrawn.j6 kj44 t123 t124 t125 t126 t129 t130 t133 t134 t135 t138 t139 t140 t141 bt144.1 bt144.2.1 bt144.2.2 bt147.1 bt147.2 true) else (if t134 = t136 then (if (t141 != t143) = true then (laws_FnPatternsDrawn.j6 kj44 t123 t124 t125 t126 t129 t130 t133 t134 t135 t138 t139 t140 t141 bt144.1 bt144.2.1 bt144.2.2 bt147.1 bt147.2 true) else (if t140 = t142 then (if (bt147.2 != bt149.2) = true then (laws_FnPatternsDrawn.j6 kj44 t123 t124 t125 t126 t129 t130 t133 t134 t135 t138 t139 t140 t141 bt144.1 bt144.2.1 bt144.2.2 bt147.1 bt147.2 true) else (if bt147.1.toList = bt149.1.toList then (if t126 = true then (laws_FnPatternsDrawn.j6 kj44 t123 t124 t125 t126 t129 t130 t133 t134 t135 t138 t139 t140 t141 bt144.1 bt144.2.1 bt144.2.2 bt147.1 bt147.2 (t130 != (decide (t125 > 0)))) else (laws_FnPatternsDrawn.j6 kj44 t123 t124 t125 t126 t129 t130 t133 t134 t135 t138 t139 t140 t141 bt144.1 bt144.2.1 bt144.2.2 bt147.1 bt147.2 (t130 != false))) else (laws_FnPatternsDrawn.j6 kj44 t123 t124 t125 t126 t129 t130 t133 t134 t135 t138 t139 t140 t141 bt144.1 bt144.2.1 bt144.2.2 bt147.1 bt147.2 true))) else (laws_FnPatternsDrawn.j6 kj44 t123 t124 t125 t126 t129 t130 t133 t134 t135 t138 t139 t140 t141 bt144.1 bt144.2.1 bt144.2.2 bt147.1 bt147.2 true))) else (laws_FnPatternsDrawn.j6 kj44 t123 t124 t125 t126 t129 t130 t133 t134 t135 t138 t139 t140 t141 bt144.1 bt144.2.1 bt144.2.2 bt147.1 bt147.2 true))) else (laws_FnPatternsDrawn.j6 kj44 t123 t124 t125 t126 t129 t130 t133 t134 t135 t138 t139 t140 t141 bt144.1 bt144.2.1 bt144.2.2 bt147.1 bt147.2 true))) else (laws_FnPatternsDrawn.j6 kj44 t123 t124 t125 t126 t129 t130 t133 t134 t135 t138 t139 t140 t141 bt144.1 bt144.2.1 bt144.2.2 bt147.1 bt147.2 true)))))) = some r := H; have A92 := Aside0.mk A920; clear A920; replace H := Option.bind_eq_some_iff.mp H; obtain ⟨⟨t144,t145,t146⟩,A930,H⟩ := H; replace H : ((impl_TurnWheel.f t144 t145 t146).bind fun bt147 => ((spec_TurnWheel.f kj44 t144 t145 t146).bind fun bt149 => (if (t126 != t128) = true then (laws_FnPatternsDrawn.j6 kj44 t123 t124 t125 t126 t129 t130 t133 t134 t135 t138 t139 t140 t141 t144 t145 t146 bt147.1 bt147.2 true) else (if t125 = t127 then (if (t130 != t132) = true then (laws_FnPatternsDrawn.j6 kj44 t123 t124 t125 t126 t129 t130 t133 t134 t135 t138 t139 t140 t141 t144 t145 t146 bt147.1 bt147.2 true) else (if t129.toList = t131.toList then (if (t135 != t137) = true then (laws_FnPatternsDrawn.j6 kj44 t123 t124 t125 t126 t129 t130 t133 t134 t135 t138 t139 t140 t141 t144 t145 t146 bt147.1 bt147.2 true) else (if t134 = t136 then (if (t141 != t143) = true then (laws_FnPatternsDrawn.j6 kj44 t123 t124 t125 t126 t129 t130 t133 t134 t135 t138 t139 t140 t141 t144 t145 t146 bt147.1 bt147.2 true) else (if t140 = t142 then (if (bt147.2 != bt149.2) = true then (laws_FnPatternsDrawn.j6 kj44 t123 t124 t125 t126 t129 t130 t133 t134 t135 t138 t139 t140 t141 t144 t145 t146 bt147.1 bt147.2 true) else (if bt147.1.toList = bt149.1.toList then (if t126 = true then (laws_FnPatternsDrawn.j6 kj44 t123 t124 t125 t126 t129 t130 t133 t134 t135 t138 t139 t140 t141 t144 t145 t146 bt147.1 bt147.2 (t130 != (decide (t125 > 0)))) else (laws_FnPatternsDrawn.j6 kj44 t123 t124 t125 t126 t129 t130 t133 t134 t135 t138 t139 t140 t141 t144 t145 t146 bt147.1 bt147.2 (t130 != false))) else (laws_FnPatternsDrawn.j6 kj44 t123 t124 t125 t126 t129 t130 t133 t134 t135 t138 t139 t140 t141 t144 t145 t146 bt147.1 bt147.2 true))) else (laws_FnPatternsDrawn.j6 kj44 t123 t124 t125 t126 t129 t130 t133 t134 t135 t138 t139 t140 t141 t144 t145 t146 bt147.1 bt147.2 true))) else (laws_FnPatternsDrawn.j6 kj44 t123 t124 t125 t126 t129 t130 t133 t134 t135 t138 t139 t140 t141 t144 t145 t146 bt147.1 bt147.2 true))) else (laws_FnPatternsDrawn.j6 kj44 t123 t124 t125 t126 t129 t130 t133 t134 t135 t138 t139 t140 t141 t144 t145 t146 bt147.1 bt147.2 true))) else (laws_FnPatternsDrawn.j6 kj44 t123 t124 t125 t126 t129 t130 t133 t134 t135 t138 t139 t140 t141 t144 t145 t146 bt147.1 bt147.2 true))))) = some r := H; have A93 := Aside0.mk A930; clear A930; replace H := Option.bind_eq_some_iff.mp H; obtain ⟨⟨t147,t148⟩,A940,H⟩ := H; replace H : ((spec_TurnWheel.f kj44 t144 t145 t146).bind fun bt149 => (if (t126 != t128) = true then (laws_FnPatternsDrawn.j6 kj44 t123 t124 t125 t126 t129 t130 t133 t134 t135 t138 t139 t140 t141 t144 t145 t146 t147 t148 true) else (if t125 = t127 then (if (t130 != t132) = true then (laws_FnPatternsDrawn.j6 kj44 t123 t124 t125 t126 t129 t130 t133 t134 t135 t138 t139 t140 t141 t144 t145 t146 t147 t148 true) else (if t129.toList = t131.toList then (if (t135 != t137) = true then (laws_FnPatternsDrawn.j6 kj44 t123 t124 t125 t126 t129 t130 t133 t134 t135 t138 t139 t140 t141 t144 t145 t146 t147 t148 true) else (if t134 = t136 then (if (t141 != t143) = true then (laws_FnPatternsDrawn.j6 kj44 t123 t124 t125 t126 t129 t130 t133 t134 t135 t138 t139 t140 t141 t144 t145 t146 t147 t148 true) else (if t140 = t142 then (if (t148 != bt149.2) = true then (laws_FnPatternsDrawn.j6 kj44 t123 t124 t125 t126 t129 t130 t133 t134 t135 t138 t139 t140 t141 t144 t145 t146 t147 t148 true) else (if t147.toList = bt149.1.toList then (if t126 = true then (laws_FnPatternsDrawn.j6 kj44 t123 t124 t125 t126 t129 t130 t133 t134 t135 t138 t139 t140 t141 t144 t145 t146 t147 t148 (t130 != (decide (t125 > 0)))) else (laws_FnPatternsDrawn.j6 kj44 t123 t124 t125 t126 t129 t130 t133 t134 t135 t138 t139 t140 t141 t144 t145 t146 t147 t148 (t130 != false))) else (laws_FnPatternsDrawn.j6 kj44 t123 t124 t125 t126 t129 t130 t133 t134 t135 t138 t139 t140 t141 t144 t145 t146 t147 t148 true))) else (laws_FnPatternsDrawn.j6 kj44 t123 t124 t125 t126 t129 t130 t133 t134 t135 t138 t139 t140 t141 t144 t145 t146 t147 t148 true))) else (laws_FnPatternsDrawn.j6 kj44 t123 t124 t125 t126 t129 t130 t133 t134 t135 t138 t139 t140 t141 t144 t145 t146 t147 t148 true))) else (laws_FnPatternsDrawn.j6 kj44 t123 t124 t125 t126 t129 t130 t133 t134 t135 t138 t139 t140 t141 t144 t145 t146 t147 t148 true))) else (laws_FnPatternsDrawn.j6 kj44 t123 t124 t125 t126 t129 t130 t133 t134 t135 t138 t139 t140 t141 t144 t145 t146 t147 t148 true)))) = some r := H; have A94 := Aside0.mk A940; clear A940; replace H := Option.bind_eq_some_iff.mp H; obtain ⟨⟨t149,t150⟩,A950,H⟩ := H; replace H : (if (t126 != t128) = true then (laws_FnPatternsDrawn.j6 kj44 t123 t124 t125 t126 t129 t130 t133 t134 t135 t138 t139 t140 t141 t144 t145 t146 t147 t148 true) else (if t125 = t127 then (if (t130 != t132) = true then (laws_FnPatternsDrawn.j6 kj44 t123 t124 t125 t126 t129 t130 t133 t134 t135 t138 t139 t140 t141 t144 t145 t146 t147 t148 true) else (if t129.toList = t131.toList then (if (t135 != t137) = true then (laws_FnPatternsDrawn.j6 kj44 t123 t124 t125 t126 t129 t130 t133 t134 t135 t138 t139 t140 t141 t144 t145 t146 t147 t148 true) else (if t134 = t136 then (if (t141 != t143) = true then (laws_FnPatternsDrawn.j6 kj44 t123 t124 t125 t126 t129 t130 t133 t134 t135 t138 t139 t140 t141 t144 t145 t146 t147 t148 true) else (if t140 = t142 then (if (t148 != t150) = true then (laws_FnPatternsDrawn.j6 kj44 t123 t124 t125 t126 t129 t130 t133 t134 t135 t138 t139 t140 t141 t144 t145 t146 t147 t148 true) else (if t147.toList = t149.toList then (if t126 = true then (laws_FnPatternsDrawn.j6 kj44 t123 t124 t125 t126 t129 t130 t133 t134 t135 t138 t139 t140 t141 t144 t145 t146 t147 t148 (t130 != (decide (t125 > 0)))) else (laws_FnPatternsDrawn.j6 kj44 t123 t124 t125 t126 t129 t130 t133 t134 t135 t138 t139 t140 t141 t144 t145 t146 t147 t148 (t130 != false))) else (laws_FnPatternsDrawn.j6 kj44 t123 t124 t125 t126 t129 t130 t133 t134 t135 t138 t139 t140 t141 t144 t145 t146 t147 t148 true))) else (laws_FnPatternsDrawn.j6 kj44 t123 t124 t125 t126 t129 t130 t133 t134 t135 t138 t139 t140 t141 t144 t145 t146 t147 t148 true))) else (laws_FnPatternsDrawn.j6 kj44 t123 t124 t125 t126 t129 t130 t133 t134 t135 t138 t139 t140 t141 t144 t145 t146 t147 t148 true))) else (laws_FnPatternsDrawn.j6 kj44 t123 t124 t125 t126 t129 t130 t133 t134 t135 t138 t139 t140 t141 t144 t145 t146 t147 t148 true))) else (laws_FnPatternsDrawn.j6 kj44 t123 t124 t125 t126 t129 t130 t133 t134 t135 t138 t139 t140 t141 t144 t145 t146 t147 t148 true))) = some r := H; have A95 := Aside0.mk A950; clear A950; have HC96 := Aside0.mk H; clear H
          go_upto_region 46 with (first | (go_at_call 12; (with_reducible refine (spec_DrawCountDrawn.calls _ _ l1 t123 t124 _ ?side1 ?side2 A82.out).mono ?_); (case side1 => repeat (first | exact (Kd.C_below HR1.out HB.out) | (with_reducible refine Kd.C_alloc ?_ _) | (with_reducible refine Kd.C_drewN ?_ _) | (with_reducible refine Kd.C_drew ?_))); (case side2 => exact HC1.out); rintro e w97 ⟨rfl,hb⟩; have n0_ := Aside0.mk (below_step (by repeat (first | (with_reducible first | exact HB.out | apply below_alloc | apply pw_below_drewN | apply below_drew1) | exact HB.out)) hb); clear HB; have HB := n0_; clear n0_; (try clear hb); (try clear hb2); (try clear hk); (try clear hi)) | (go_at_call 13; (with_reducible refine (impl_CountDrawn.calls kj44 t123 t124 t125 t126 _ A83.out).mono ?_); rintro e w98 ⟨rfl,hb⟩; have n0_ := Aside0.mk (below_step (by repeat (first | (with_reducible first | exact HB.out | apply below_alloc | apply pw_below_drewN | apply below_drew1) | exact HB.out)) hb); clear HB; have HB := n0_; clear n0_; (try clear hb); (try clear hb2); (try clear hk); (try clear hi)) | (go_at_call 14; (with_reducible refine (spec_CountDrawn.calls kj44 t123 t124 t127 t128 _ A84.out).mono ?_); rintro e w' ⟨rfl,⟨nd,rfl⟩⟩; (try first | exact ⟨rfl,_,World.drewN_drewN _ _ _⟩ | exact ⟨rfl,_,Eq.trans (World.drewN_drewN _ _ _) (congrArg (World.drewN _) (Nat.add_assoc _ _ _))⟩)) | (go_at_call 15; (with_reducible refine (impl_FirstDrawn.calls kj44 t123 t124 t129 t130 _ A85.out).mono ?_); rintro e w99 ⟨rfl,hb⟩; have n0_ := Aside0.mk (below_step (by repeat (first | (with_reducible first | exact HB.out | apply below_alloc | apply pw_below_drewN | apply below_drew1) | exact HB.out)) hb); clear HB; have HB := n0_; clear n0_; (try clear hb); (try clear hb2); (try clear hk); (try clear hi)) | (go_at_call 16; (with_reducible refine (spec_FirstDrawn.calls kj44 t123 t124 t131 t132 _ A86.out).mono ?_); rintro e w' ⟨rfl,⟨nd,rfl⟩⟩; (try first | exact ⟨rfl,_,World.drewN_drewN _ _ _⟩ | exact ⟨rfl,_,Eq.trans (World.drewN_drewN _ _ _) (congrArg (World.drewN _) (Nat.add_assoc _ _ _))⟩)) | (go_at_call 17; (with_reducible refine (spec_DrawCountAllDrawn.calls _ _ l1 t133 _ ?side1 ?side2 A87.out).mono ?_); (case side1 => repeat (first | exact (Kd.C_below HR1.out (by repeat (first | (with_reducible first | exact HB.out | apply below_alloc | apply pw_below_drewN | apply below_drew1) | exact HB.out))) | (with_reducible refine Kd.C_alloc ?_ _) | (with_reducible refine Kd.C_drewN ?_ _) | (with_reducible refine Kd.C_drew ?_))); (case side2 => exact HC1.out); rintro e w100 ⟨rfl,hb⟩; have n0_ := Aside0.mk (below_step (by repeat (first | (with_reducible first | exact HB.out | apply below_alloc | apply pw_below_drewN | apply below_drew1) | exact HB.out)) hb); clear HB; have HB := n0_; clear n0_; (try clear hb); (try clear hb2); (try clear hk); (try clear hi)) | (go_at_call 18; (with_reducible refine (impl_CountAllDrawn.calls kj44 t133 t134 t135 _ A88.out).mono ?_); rintro e w101 ⟨rfl,hb⟩; have n0_ := Aside0.mk (below_step (by repeat (first | (with_reducible first | exact HB.out | apply below_alloc | apply pw_below_drewN | apply below_drew1) | exact HB.out)) hb); clear HB; have HB := n0_; clear n0_; (try clear hb); (try clear hb2); (try clear hk); (try clear hi)) | (go_at_call 19; (with_reducible refine (spec_CountAllDrawn.calls kj44 t133 t136 t137 _ A89.out).mono ?_); rintro e w' ⟨rfl,⟨nd,rfl⟩⟩; (try first | exact ⟨rfl,_,World.drewN_drewN _ _ _⟩ | exact ⟨rfl,_,Eq.trans (World.drewN_drewN _ _ _) (congrArg (World.drewN _) (Nat.add_assoc _ _ _))⟩)) | (go_at_call 20; (with_reducible refine (spec_DrawWheelTurns.calls kj44 _ _ l1 t138 t139 _ ?side1 ?side2 A90.out).mono ?_); (case side1 => repeat (first | exact (Kd.C_below HR1.out (by repeat (first | (with_reducible first | exact HB.out | apply below_alloc | apply pw_below_drewN | apply below_drew1) | exact HB.out))) | (with_reducible refine Kd.C_alloc ?_ _) | (with_reducible refine Kd.C_drewN ?_ _) | (with_reducible refine Kd.C_drew ?_))); (case side2 => exact HC1.out); rintro e w102 ⟨rfl,hb⟩; have n0_ := Aside0.mk (below_step (by repeat (first | (with_reducible first | exact HB.out | apply below_alloc | apply pw_below_drewN | apply below_drew1) | exact HB.out)) hb); clear HB; have HB := n0_; clear n0_; (try clear hb); (try clear hb2); (try clear hk); (try clear hi)) | (go_at_call 21; (with_reducible refine (impl_WheelTurns.calls kj44 t138 t139 t140 t141 _ A91.out).mono ?_); rintro e w103 ⟨rfl,hb⟩; have n0_ := Aside0.mk (below_step (by repeat (first | (with_reducible first | exact HB.out | apply below_alloc | apply pw_below_drewN | apply below_drew1) | exact HB.out)) hb); clear HB; have HB := n0_; clear n0_; (try clear hb); (try clear hb2); (try clear hk); (try clear hi)) | (go_at_call 22; (with_reducible refine (spec_WheelTurns.calls kj44 t138 t139 t142 t143 _ A92.out).mono ?_); rintro e w' ⟨rfl,⟨nd,rfl⟩⟩; (try first | exact ⟨rfl,_,World.drewN_drewN _ _ _⟩ | exact ⟨rfl,_,Eq.trans (World.drewN_drewN _ _ _) (congrArg (World.drewN _) (Nat.add_assoc _ _ _))⟩)) | (go_at_call 23; (with_reducible refine (spec_DrawTurnWheel.calls kj44 _ _ l1 t144 t145 t146 _ ?side1 ?side2 A93.out).mono ?_); (case side1 => repeat (first | exact (Kd.C_below HR1.out (by repeat (first | (with_reducible first | exact HB.out | apply below_alloc | apply pw_below_drewN | apply below_drew1) | exact HB.out))) | (with_reducible refine Kd.C_alloc ?_ _) | (with_reducible refine Kd.C_drewN ?_ _) | (with_reducible refine Kd.C_drew ?_))); (case side2 => exact HC1.out); rintro e w104 ⟨rfl,hb⟩; have n0_ := Aside0.mk (below_step (by repeat (first | (with_reducible first | exact HB.out | apply below_alloc | apply pw_below_drewN | apply below_drew1) | exact HB.out)) hb); clear HB; have HB := n0_; clear n0_; (try clear hb); (try clear hb2); (try clear hk); (try clear hi)) | (go_at_call 24; (with_reducible refine (impl_TurnWheel.calls t144 t145 t146 t147 t148 _ A94.out).mono ?_); rintro e w105 ⟨rfl,hb⟩; have n0_ := Aside0.mk (below_step (by repeat (first | (with_reducible first | exact HB.out | apply below_alloc | apply pw_below_drewN | apply below_drew1) | exact HB.out)) hb); clear HB; have HB := n0_; clear n0_; (try clear hb); (try clear hb2); (try clear hk); (try clear hi)) | (go_at_call 25; (with_reducible refine (spec_TurnWheel.calls kj44 t144 t145 t146 t149 t150 _ A95.out).mono ?_); rintro e w106 ⟨rfl,hb⟩; have n0_ := Aside0.mk (below_step (by repeat (first | (with_reducible first | exact HB.out | apply below_alloc | apply pw_below_drewN | apply below_drew1) | exact HB.out)) hb); clear HB; have HB := n0_; clear n0_; (try clear hb); (try clear hb2); (try clear hk); (try clear hi)))
          (try simp only [Act.put,List.setIfInBounds_toArray,List.set_cons_zero,List.set_cons_succ])
          go_cut [376] from 242 to 319 (fun v376 wc => ∃ (kq : Nat) (x376_95 : Bool),v376 = .bool x376_95 ∧ Aside0 (laws_FnPatternsDrawn.j6 kq t123 t124 t125 t126 t129 t130 t133 t134 t135 t138 t139 t140 t141 t144 t145 t146 t147 t148 x376_95 = some r) ∧ Aside0 (kq ≤ kj44) ∧ Aside0 (Below w.heap.size w wc))
          case first =>
           have H := HC96.out; clear HC96
           by_cases c107 : (t126 != t128) = true
           · rw [if_pos c107] at H; exact absurd H (by rw [laws_FnPatternsDrawn.j6_none]; simp)
           ·
            rw [if_neg c107] at H; have c107b0 : (t126 != t128) = false := by simpa using c107
            (try (have c107b1 : decide (t126 = t128) = true := by simpa using c107))
            (try (have c107b2 : (t126 == t128) = true := by simpa using c107))
            clear c107
            (first | rw [c107b0] | (simp only [i64_w,i32_w]; rw [c107b0]) | skip)
            by_cases c108 : t125 = t127
            ·
             rw [if_pos c108] at H; have c108b0 : (t125 == t127) = true := beq_iff_eq.mpr c108; have c108b1 : (t125 != t127) = false := bne_eq_false_iff_eq.mpr c108; clear c108
             by_cases c109 : (t130 != t132) = true
             · rw [if_pos c109] at H; exact absurd H (by rw [laws_FnPatternsDrawn.j6_none]; simp)
             ·
              rw [if_neg c109] at H; have c109b0 : (t130 != t132) = false := by simpa using c109
              (try (have c109b1 : decide (t130 = t132) = true := by simpa using c109))
              (try (have c109b2 : (t130 == t132) = true := by simpa using c109))
              clear c109
              by_cases c110 : t129.toList = t131.toList
              ·
               rw [if_pos c110] at H; have c110b0 : (t129.toList == t131.toList) = true := beq_iff_eq.mpr c110; have c110b1 : (t129.toList != t131.toList) = false := bne_eq_false_iff_eq.mpr c110; clear c110
               by_cases c111 : (t135 != t137) = true
               · rw [if_pos c111] at H; exact absurd H (by rw [laws_FnPatternsDrawn.j6_none]; simp)
               ·
                rw [if_neg c111] at H; have c111b0 : (t135 != t137) = false := by simpa using c111
                (try (have c111b1 : decide (t135 = t137) = true := by simpa using c111))
                (try (have c111b2 : (t135 == t137) = true := by simpa using c111))
                clear c111
                by_cases c112 : t134 = t136
                ·
                 rw [if_pos c112] at H; have c112b0 : (t134 == t136) = true := beq_iff_eq.mpr c112; have c112b1 : (t134 != t136) = false := bne_eq_false_iff_eq.mpr c112; clear c112
                 by_cases c113 : (t141 != t143) = true
                 · rw [if_pos c113] at H; exact absurd H (by rw [laws_FnPatternsDrawn.j6_none]; simp)
                 ·
                  rw [if_neg c113] at H; have c113b0 : (t141 != t143) = false := by simpa using c113
                  (try (have c113b1 : decide (t141 = t143) = true := by simpa using c113))
                  (try (have c113b2 : (t141 == t143) = true := by simpa using c113))
                  clear c113
                  by_cases c114 : t140 = t142
                  ·
                   rw [if_pos c114] at H; have c114b0 : (t140 == t142) = true := beq_iff_eq.mpr c114; have c114b1 : (t140 != t142) = false := bne_eq_false_iff_eq.mpr c114; clear c114
                   by_cases c115 : (t148 != t150) = true
                   · rw [if_pos c115] at H; exact absurd H (by rw [laws_FnPatternsDrawn.j6_none]; simp)
                   ·
                    rw [if_neg c115] at H; have c115b0 : (t148 != t150) = false := by simpa using c115
                    (try (have c115b1 : decide (t148 = t150) = true := by simpa using c115))
                    (try (have c115b2 : (t148 == t150) = true := by simpa using c115))
                    clear c115
                    by_cases c116 : t147.toList = t149.toList
                    ·
                     rw [if_pos c116] at H; have c116b0 : (t147.toList == t149.toList) = true := beq_iff_eq.mpr c116; have c116b1 : (t147.toList != t149.toList) = false := bne_eq_false_iff_eq.mpr c116; clear c116
                     by_cases c117 : t126 = true
                     ·
                      subst c117; have H1 : (laws_FnPatternsDrawn.j6 kj44 t123 t124 t125 true t129 t130 t133 t134 t135 t138 t139 t140 t141 t144 t145 t146 t147 t148 (t130 != (decide (t125 > 0)))) = some r := by rw [if_pos rfl] at H; exact H
                      clear H; have H := H1; clear H1; have H' := Aside0.mk H; clear H; go_wp2
                      go_meet
                      case rel => exact ⟨_,((t130 != (decide (t125 > 0)))),(by first | rfl | (simp; done) | (simp [*]; done)),H',⟨by have := HJ11.out; have := HJ26.out; have := HJ44.out; first | omega | exact Nat.le_refl _⟩,⟨by repeat (first | (with_reducible first | exact HB.out | apply below_alloc | apply pw_below_drewN | apply below_drew1) | exact HB.out)⟩⟩
                     ·
                      replace c117 := Bool.eq_false_iff.mpr c117; subst c117; have H1 : (laws_FnPatternsDrawn.j6 kj44 t123 t124 t125 false t129 t130 t133 t134 t135 t138 t139 t140 t141 t144 t145 t146 t147 t148 (t130 != false)) = some r := by rw [if_neg (show ¬ (false = true) by decide)] at H; exact H
                      clear H; have H := H1; clear H1; have H' := Aside0.mk H; clear H; go_wp2
                      go_meet
                      case rel => exact ⟨_,((t130 != false)),(by first | rfl | (simp; done) | (simp [*]; done)),H',⟨by have := HJ11.out; have := HJ26.out; have := HJ44.out; first | omega | exact Nat.le_refl _⟩,⟨by repeat (first | (with_reducible first | exact HB.out | apply below_alloc | apply pw_below_drewN | apply below_drew1) | exact HB.out)⟩⟩
                    · rw [if_neg c116] at H; exact absurd H (by rw [laws_FnPatternsDrawn.j6_none]; simp)
                  · rw [if_neg c114] at H; exact absurd H (by rw [laws_FnPatternsDrawn.j6_none]; simp)
                · rw [if_neg c112] at H; exact absurd H (by rw [laws_FnPatternsDrawn.j6_none]; simp)
              · rw [if_neg c110] at H; exact absurd H (by rw [laws_FnPatternsDrawn.j6_none]; simp)
            · rw [if_neg c108] at H; exact absurd H (by rw [laws_FnPatternsDrawn.j6_none]; simp)
          case rest =>
           clear HC96; try clear c1
           try clear c2
           try clear p2
           try clear c3
           try clear c4
           try clear c5
           try clear p5
           try clear q5
           try clear hx5
           try clear c6
           try clear p6
           try clear c7
           try clear c10
           try clear c11
           try clear c18
           try clear c18b0
           try clear c18b1
           try clear c18b2
           try clear c19
           try clear c19b0
           try clear c19b1
           try clear c20
           try clear c20b0
           try clear c20b1
           try clear c20b2
           try clear c21
           try clear c21b0
           try clear c21b1
           try clear c21b2
           try clear c22
           try clear c22b0
           try clear c22b1
           try clear c22b2
           try clear c23
           try clear c23b0
           try clear c23b1
           try clear c24
           try clear c24b0
           try clear c24b1
           try clear c24b2
           try clear c25
           try clear c26
           try clear c28
           try clear c31
           try clear c32
           try clear c32b0
           try clear c32b1
           try clear c33
           try clear c34
           try clear c34b0
           try clear c34b1
           try clear c34b2
           try clear c46
           try clear c47
           try clear c47b0
           try clear c49
           try clear c49b0
           try clear c51
           try clear c51b0
           try clear c52
           try clear c52b0
           try clear p53
           try clear q53
           try clear hx53
           try clear c54
           try clear c54b0
           try clear c55
           try clear c55b0
           try clear p56
           try clear q56
           try clear hx56
           try clear c57
           try clear c58
           try clear c58b0
           try clear c58b1
           try clear c59
           try clear c59b0
           try clear c59b1
           try clear c60
           try clear c60b0
           try clear c60b1
           try clear c61
           try clear c61b0
           try clear c61b1
           try clear c61b2
           try clear c63
           try clear c64
           try clear p64
           try clear c69
           try clear c69b0
           try clear c69b1
           try clear c70
           try clear c70b0
           try clear c70b1
           try clear c71
           try clear c72
           try clear c72b0
           try clear c72b1
           try clear c74
           try clear c74b0
           try clear c74b1
           try clear c75
           try clear c75b0
           try clear c75b1
           try clear c77
           try clear c78
           try clear c107
           try clear c107b0
           try clear c107b1
           try clear c107b2
           try clear c108
           try clear c108b0
           try clear c108b1
           try clear c109
           try clear c109b0
           try clear c109b1
           try clear c109b2
           try clear c110
           try clear c110b0
           try clear c110b1
           try clear c111
           try clear c111b0
           try clear c111b1
           try clear c111b2
           try clear c112
           try clear c112b0
           try clear c112b1
           try clear c113
           try clear c113b0
           try clear c113b1
           try clear c113b2
           try clear c114
           try clear c114b0
           try clear c114b1
           try clear c115
           try clear c115b0
           try clear c115b1
           try clear c115b2
           try clear c116
           try clear c116b0
           try clear c116b1
           try clear c117
           try clear p2
           try clear p5
           try clear p53
           try clear p56
           try clear p6
           try clear p64
           try clear q5
           try clear q53
           try clear q56
           obtain ⟨kq,x376_95,rfl,HA,HJ95,HB⟩ := hcut
           cases kq with
           | zero => exact absurd HA.out (by simp [laws_FnPatternsDrawn.j6])
           | succ kj95 =>
            have H := HA.out; clear HA; simp only [laws_FnPatternsDrawn.j6] at H
            by_cases c118 : x376_95 = true
            ·
             subst c118; have H1 : (none : Option Bool) = some r := by rw [if_pos rfl] at H; exact H
             exact absurd H1 (by simp)
            ·
             replace c118 := Bool.eq_false_iff.mpr c118; subst c118; have H1 : (if t130 = true then ((impl_IsDrawn.f kj95 t129).bind fun bt151 => (if (t129.size : Int) = t124 then (if 0 ≤ 1 then (if 1 ≤ (t129.size : Int) then (if (t129.extract 0 1).toList = t123.toList then (if bt151.2 = true then (if bt151.1 = true then (laws_FnPatternsDrawn.j7 kj95 t124 t125 t126 t133 t134 t135 t138 t139 t140 t141 t144 t145 t146 t147 t148) else none) else none) else none) else (none)) else (none)) else none)) else (laws_FnPatternsDrawn.j7 kj95 t124 t125 t126 t133 t134 t135 t138 t139 t140 t141 t144 t145 t146 t147 t148)) = some r := by rw [if_neg (show ¬ (false = true) by decide)] at H; exact H
             clear H; have H := H1; clear H1; have HC119 := Aside0.mk H; clear H
             go_upto_if 377 with (fail)
             go_cut [] from 377 to 377 (fun wc => ∃ (kq : Nat),Aside0 (laws_FnPatternsDrawn.j7 kq t124 t125 t126 t133 t134 t135 t138 t139 t140 t141 t144 t145 t146 t147 t148 = some r) ∧ Aside0 (kq ≤ kj95) ∧ Aside0 (Below w.heap.size w wc))
             case first =>
              have H := HC119.out; clear HC119
              by_cases c120 : t130 = true
              ·
               subst c120; have H1 : ((impl_IsDrawn.f kj95 t129).bind fun bt151 => (if (t129.size : Int) = t124 then (if 0 ≤ 1 then (if 1 ≤ (t129.size : Int) then (if (t129.extract 0 1).toList = t123.toList then (if bt151.2 = true then (if bt151.1 = true then (laws_FnPatternsDrawn.j7 kj95 t124 t125 t126 t133 t134 t135 t138 t139 t140 t141 t144 t145 t146 t147 t148) else none) else none) else none) else (none)) else (none)) else none)) = some r := by rw [if_pos rfl] at H; exact H
               clear H; have H := H1; clear H1; replace H := Option.bind_eq_some_iff.mp H; obtain ⟨⟨t151,t152⟩,A1210,H⟩ := H; replace H : (if (t129.size : Int) = t124 then (if 0 ≤ 1 then (if 1 ≤ (t129.size : Int) then (if (t129.extract 0 1).toList = t123.toList then (if t152 = true then (if t151 = true then (laws_FnPatternsDrawn.j7 kj95 t124 t125 t126 t133 t134 t135 t138 t139 t140 t141 t144 t145 t146 t147 t148) else none) else none) else none) else (none)) else (none)) else none) = some r := H; have A121 := Aside0.mk A1210; clear A1210
               by_cases c122 : (t129.size : Int) = t124
               ·
                rw [if_pos c122] at H; have c122b0 : ((t129.size : Int) == t124) = true := beq_iff_eq.mpr c122; have c122b1 : ((t129.size : Int) != t124) = false := bne_eq_false_iff_eq.mpr c122; clear c122
                (first | rw [c122b0] | (simp only [i64_w,i32_w]; rw [c122b0]) | skip)
                by_cases c123 : 0 ≤ 1
                ·
                 rw [if_pos c123] at H; have c123b0 := eq_true c123; have c123b1 : decide (0 ≤ 1) = true := decide_eq_true c123; clear c123
                 by_cases c124 : 1 ≤ (t129.size : Int)
                 ·
                  rw [if_pos c124] at H; have c124b0 := eq_true c124; have c124b1 : decide (1 ≤ (t129.size : Int)) = true := decide_eq_true c124; clear c124
                  by_cases c125 : (t129.extract 0 1).toList = t123.toList
                  ·
                   rw [if_pos c125] at H; have c125b0 : ((t129.extract 0 1).toList == t123.toList) = true := beq_iff_eq.mpr c125; have c125b1 : ((t129.extract 0 1).toList != t123.toList) = false := bne_eq_false_iff_eq.mpr c125; clear c125
                   by_cases c126 : t152 = true
                   ·
                    subst c126; have H1 : (if t151 = true then (laws_FnPatternsDrawn.j7 kj95 t124 t125 t126 t133 t134 t135 t138 t139 t140 t141 t144 t145 t146 t147 t148) else none) = some r := by rw [if_pos rfl] at H; exact H
                    clear H; have H := H1; clear H1
                    by_cases c127 : t151 = true
                    ·
                     subst c127; have H1 : (laws_FnPatternsDrawn.j7 kj95 t124 t125 t126 t133 t134 t135 t138 t139 t140 t141 t144 t145 t146 t147 t148) = some r := by rw [if_pos rfl] at H; exact H
                     clear H; have H := H1; clear H1; have H' := Aside0.mk H; clear H; go_wp2_with (first | (go_at_call 8; (with_reducible refine (impl_IsDrawn.calls kj95 t129 true true _ A121.out).mono ?_); rintro e w128 ⟨rfl,hb⟩; have n0_ := Aside0.mk (below_step (by repeat (first | (with_reducible first | exact HB.out | apply below_alloc | apply pw_below_drewN | apply below_drew1) | exact HB.out)) hb); clear HB; have HB := n0_; clear n0_; (try clear hb); (try clear hb2); (try clear hk); (try clear hi)))
                     go_meet
                     case rel => exact ⟨_,H',⟨by have := HJ11.out; have := HJ26.out; have := HJ44.out; have := HJ95.out; first | omega | exact Nat.le_refl _⟩,⟨by repeat (first | (with_reducible first | exact HB.out | apply below_alloc | apply pw_below_drewN | apply below_drew1) | exact HB.out)⟩⟩
                    ·
                     replace c127 := Bool.eq_false_iff.mpr c127; subst c127; have H1 : (none : Option Bool) = some r := by rw [if_neg (show ¬ (false = true) by decide)] at H; exact H
                     exact absurd H1 (by simp)
                   ·
                    replace c126 := Bool.eq_false_iff.mpr c126; subst c126; have H1 : (none : Option Bool) = some r := by rw [if_neg (show ¬ (false = true) by decide)] at H; exact H
                    exact absurd H1 (by simp)
                  · rw [if_neg c125] at H; exact absurd H (by simp)
                 · rw [if_neg c124] at H; exact absurd H (by simp)
                · rw [if_neg c123] at H; exact absurd H (by simp)
               · rw [if_neg c122] at H; exact absurd H (by simp)
              ·
               replace c120 := Bool.eq_false_iff.mpr c120; subst c120; have H1 : (laws_FnPatternsDrawn.j7 kj95 t124 t125 t126 t133 t134 t135 t138 t139 t140 t141 t144 t145 t146 t147 t148) = some r := by rw [if_neg (show ¬ (false = true) by decide)] at H; exact H
               clear H; have H := H1; clear H1; have H' := Aside0.mk H; clear H; go_wp2
               go_meet
               case rel => exact ⟨_,H',⟨by have := HJ11.out; have := HJ26.out; have := HJ44.out; have := HJ95.out; first | omega | exact Nat.le_refl _⟩,⟨by repeat (first | (with_reducible first | exact HB.out | apply below_alloc | apply pw_below_drewN | apply below_drew1) | exact HB.out)⟩⟩
             case rest =>
              clear HC119; try clear c1
              try clear c2
              try clear p2
              try clear c3
              try clear c4
              try clear c5
              try clear p5
              try clear q5
              try clear hx5
              try clear c6
              try clear p6
              try clear c7
              try clear c10
              try clear c11
              try clear c12
              try clear c18
              try clear c18b0
              try clear c18b1
              try clear c18b2
              try clear c19
              try clear c19b0
              try clear c19b1
              try clear c20
              try clear c20b0
              try clear c20b1
              try clear c20b2
              try clear c21
              try clear c21b0
              try clear c21b1
              try clear c21b2
              try clear c22
              try clear c22b0
              try clear c22b1
              try clear c22b2
              try clear c23
              try clear c23b0
              try clear c23b1
              try clear c24
              try clear c24b0
              try clear c24b1
              try clear c24b2
              try clear c25
              try clear c26
              try clear c28
              try clear c31
              try clear c32
              try clear c32b0
              try clear c32b1
              try clear c33
              try clear c34
              try clear c34b0
              try clear c34b1
              try clear c34b2
              try clear c46
              try clear c47
              try clear c47b0
              try clear c49
              try clear c49b0
              try clear c51
              try clear c51b0
              try clear c52
              try clear c52b0
              try clear p53
              try clear q53
              try clear hx53
              try clear c54
              try clear c54b0
              try clear c55
              try clear c55b0
              try clear p56
              try clear q56
              try clear hx56
              try clear c57
              try clear c58
              try clear c58b0
              try clear c58b1
              try clear c59
              try clear c59b0
              try clear c59b1
              try clear c60
              try clear c60b0
              try clear c60b1
              try clear c61
              try clear c61b0
              try clear c61b1
              try clear c61b2
              try clear c63
              try clear c64
              try clear p64
              try clear c69
              try clear c69b0
              try clear c69b1
              try clear c70
              try clear c70b0
              try clear c70b1
              try clear c71
              try clear c72
              try clear c72b0
              try clear c72b1
              try clear c74
              try clear c74b0
              try clear c74b1
              try clear c75
              try clear c75b0
              try clear c75b1
              try clear c77
              try clear c78
              try clear c107
              try clear c107b0
              try clear c107b1
              try clear c107b2
              try clear c108
              try clear c108b0
              try clear c108b1
              try clear c109
              try clear c109b0
              try clear c109b1
              try clear c109b2
              try clear c110
              try clear c110b0
              try clear c110b1
              try clear c111
              try clear c111b0
              try clear c111b1
              try clear c111b2
              try clear c112
              try clear c112b0
              try clear c112b1
              try clear c113
              try clear c113b0
              try clear c113b1
              try clear c113b2
              try clear c114
              try clear c114b0
              try clear c114b1
              try clear c115
              try clear c115b0
              try clear c115b1
              try clear c115b2
              try clear c116
              try clear c116b0
              try clear c116b1
              try clear c117
              try clear c118
              try clear c120
              try clear c122
              try clear c122b0
              try clear c122b1
              try clear c123
              try clear c123b0
              try clear c123b1
              try clear c124
              try clear c124b0
              try clear c124b1
              try clear c125
              try clear c125b0
              try clear c125b1
              try clear c126
              try clear c127
              try clear p2
              try clear p5
              try clear p53
              try clear p56
              try clear p6
              try clear p64
              try clear q5
              try clear q53
              try clear q56
              obtain ⟨kq,HA,HJ118,HB⟩ := hcut
              cases kq with
              | zero => exact absurd HA.out (by simp [laws_FnPatternsDrawn.j7])
              | succ kj118 =>
               have H := HA.out; clear HA; simp only [laws_FnPatternsDrawn.j7] at H; have HC133 := Aside0.mk H; clear H
               go_upto_region 52 with (fail)
               go_cut [405] from 518 (fun v405 wc => ∃ (kq : Nat) (x405_132 : Bool),v405 = .bool x405_132 ∧ Aside0 (laws_FnPatternsDrawn.j8 kq t124 t125 t133 t134 t135 t138 t139 t140 t141 t144 t145 t146 t147 t148 x405_132 = some r) ∧ Aside0 (kq ≤ kj118) ∧ Aside0 (Below w.heap.size w wc))
               case first =>
                have H := HC133.out; clear HC133
                by_cases c134 : t126 = true
                ·
                 subst c134; have H1 : (laws_FnPatternsDrawn.j8 kj118 t124 t125 t133 t134 t135 t138 t139 t140 t141 t144 t145 t146 t147 t148 (decide (t124 ≤ 5))) = some r := by rw [if_pos rfl] at H; exact H
                 clear H; have H := H1; clear H1; have H' := Aside0.mk H; clear H; go_wp2
                 go_meet
                 case rel => exact ⟨_,(decide (t124 ≤ 5)),(by first | rfl | (simp; done) | (simp [*]; done)),H',⟨by have := HJ11.out; have := HJ26.out; have := HJ44.out; have := HJ95.out; have := HJ118.out; first | omega | exact Nat.le_refl _⟩,⟨by repeat (first | (with_reducible first | exact HB.out | apply below_alloc | apply pw_below_drewN | apply below_drew1) | exact HB.out)⟩⟩
                ·
                 replace c134 := Bool.eq_false_iff.mpr c134; subst c134; have H1 : (laws_FnPatternsDrawn.j8 kj118 t124 t125 t133 t134 t135 t138 t139 t140 t141 t144 t145 t146 t147 t148 false) = some r := by rw [if_neg (show ¬ (false = true) by decide)] at H; exact H
                 clear H; have H := H1; clear H1; have H' := Aside0.mk H; clear H; go_wp2
                 go_meet
                 case rel => exact ⟨_,(false),(by first | rfl | (simp; done) | (simp [*]; done)),H',⟨by have := HJ11.out; have := HJ26.out; have := HJ44.out; have := HJ95.out; have := HJ118.out; first | omega | exact Nat.le_refl _⟩,⟨by repeat (first | (with_reducible first | exact HB.out | apply below_alloc | apply pw_below_drewN | apply below_drew1) | exact HB.out)⟩⟩
               case rest =>
                clear HC133; try clear c1
                try clear c2
                try clear p2
                try clear c3
                try clear c4
                try clear c5
                try clear p5
                try clear q5
                try clear hx5
                try clear c6
                try clear p6
                try clear c7
                try clear c10
                try clear c11
                try clear c12
                try clear c13
                try clear c18
                try clear c18b0
                try clear c18b1
                try clear c18b2
                try clear c19
                try clear c19b0
                try clear c19b1
                try clear c20
                try clear c20b0
                try clear c20b1
                try clear c20b2
                try clear c21
                try clear c21b0
                try clear c21b1
                try clear c21b2
                try clear c22
                try clear c22b0
                try clear c22b1
                try clear c22b2
                try clear c23
                try clear c23b0
                try clear c23b1
                try clear c24
                try clear c24b0
                try clear c24b1
                try clear c24b2
                try clear c25
                try clear c26
                try clear c28
                try clear c31
                try clear c32
                try clear c32b0
                try clear c32b1
                try clear c33
                try clear c34
                try clear c34b0
                try clear c34b1
                try clear c34b2
                try clear c46
                try clear c47
                try clear c47b0
                try clear c49
                try clear c49b0
                try clear c51
                try clear c51b0
                try clear c52
                try clear c52b0
                try clear p53
                try clear q53
                try clear hx53
                try clear c54
                try clear c54b0
                try clear c55
                try clear c55b0
                try clear p56
                try clear q56
                try clear hx56
                try clear c57
                try clear c58
                try clear c58b0
                try clear c58b1
                try clear c59
                try clear c59b0
                try clear c59b1
                try clear c60
                try clear c60b0
                try clear c60b1
                try clear c61
                try clear c61b0
                try clear c61b1
                try clear c61b2
                try clear c63
                try clear c64
                try clear p64
                try clear c69
                try clear c69b0
                try clear c69b1
                try clear c70
                try clear c70b0
                try clear c70b1
                try clear c71
                try clear c72
                try clear c72b0
                try clear c72b1
                try clear c74
                try clear c74b0
                try clear c74b1
                try clear c75
                try clear c75b0
                try clear c75b1
                try clear c77
                try clear c78
                try clear c107
                try clear c107b0
                try clear c107b1
                try clear c107b2
                try clear c108
                try clear c108b0
                try clear c108b1
                try clear c109
                try clear c109b0
                try clear c109b1
                try clear c109b2
                try clear c110
                try clear c110b0
                try clear c110b1
                try clear c111
                try clear c111b0
                try clear c111b1
                try clear c111b2
                try clear c112
                try clear c112b0
                try clear c112b1
                try clear c113
                try clear c113b0
                try clear c113b1
                try clear c113b2
                try clear c114
                try clear c114b0
                try clear c114b1
                try clear c115
                try clear c115b0
                try clear c115b1
                try clear c115b2
                try clear c116
                try clear c116b0
                try clear c116b1
                try clear c117
                try clear c118
                try clear c120
                try clear c122
                try clear c122b0
                try clear c122b1
                try clear c123
                try clear c123b0
                try clear c123b1
                try clear c124
                try clear c124b0
                try clear c124b1
                try clear c125
                try clear c125b0
                try clear c125b1
                try clear c126
                try clear c127
                try clear c134
                try clear p2
                try clear p5
                try clear p53
                try clear p56
                try clear p6
                try clear p64
                try clear q5
                try clear q53
                try clear q56
                obtain ⟨kq,x405_132,rfl,HA,HJ132,HB⟩ := hcut
                cases kq with
                | zero => exact absurd HA.out (by simp [laws_FnPatternsDrawn.j8])
                | succ kj132 =>
                 have H := HA.out; clear HA; simp only [laws_FnPatternsDrawn.j8] at H; have HC135 := Aside0.mk H; clear H
                 go_upto_if 405 with (fail)
                 go_cut [] from 518 (fun wc => ∃ (kq : Nat),Aside0 (laws_FnPatternsDrawn.j9 kq t133 t134 t135 t138 t139 t140 t141 t144 t145 t146 t147 t148 = some r) ∧ Aside0 (kq ≤ kj132) ∧ Aside0 (Below w.heap.size w wc))
                 case first =>
                  have H := HC135.out; clear HC135
                  by_cases c136 : x405_132 = true
                  ·
                   subst c136; have H1 : ((impl_CountAllDrawn.f kj132 t124).bind fun bt153 => (if bt153.2 = true then (if t125 > bt153.1 then none else (laws_FnPatternsDrawn.j9 kj132 t133 t134 t135 t138 t139 t140 t141 t144 t145 t146 t147 t148)) else none)) = some r := by rw [if_pos rfl] at H; exact H
                   clear H; have H := H1; clear H1; replace H := Option.bind_eq_some_iff.mp H; obtain ⟨⟨t153,t154⟩,A1370,H⟩ := H; replace H : (if t154 = true then (if t125 > t153 then none else (laws_FnPatternsDrawn.j9 kj132 t133 t134 t135 t138 t139 t140 t141 t144 t145 t146 t147 t148)) else none) = some r := H; have A137 := Aside0.mk A1370; clear A1370
                   by_cases c138 : t154 = true
                   ·
                    subst c138; have H1 : (if t125 > t153 then none else (laws_FnPatternsDrawn.j9 kj132 t133 t134 t135 t138 t139 t140 t141 t144 t145 t146 t147 t148)) = some r := by rw [if_pos rfl] at H; exact H
                    clear H; have H := H1; clear H1
                    by_cases c139 : t125 > t153
                    · rw [if_pos c139] at H; exact absurd H (by simp)
                    ·
                     rw [if_neg c139] at H; have c139b0 : decide (t153 < t125) = false := decide_eq_false c139; clear c139
                     (first | rw [c139b0] | (simp only [i64_w,i32_w]; rw [c139b0]) | skip)
                     have H' := Aside0.mk H; clear H; go_wp2_with (first | (go_at_call 18; (with_reducible refine (impl_CountAllDrawn.calls kj132 t124 t153 true _ A137.out).mono ?_); rintro e w141 ⟨rfl,hb⟩; have n0_ := Aside0.mk (below_step (by repeat (first | (with_reducible first | exact HB.out | apply below_alloc | apply pw_below_drewN | apply below_drew1) | exact HB.out)) hb); clear HB; have HB := n0_; clear n0_; (try clear hb); (try clear hb2); (try clear hk); (try clear hi)))
                     go_meet
                     case rel => exact ⟨_,H',⟨by have := HJ11.out; have := HJ26.out; have := HJ44.out; have := HJ95.out; have := HJ118.out; have := HJ132.out; first | omega | exact Nat.le_refl _⟩,⟨by repeat (first | (with_reducible first | exact HB.out | apply below_alloc | apply pw_below_drewN | apply below_drew1) | exact HB.out)⟩⟩
                   ·
                    replace c138 := Bool.eq_false_iff.mpr c138; subst c138; have H1 : (none : Option Bool) = some r := by rw [if_neg (show ¬ (false = true) by decide)] at H; exact H
                    exact absurd H1 (by simp)
                  ·
                   replace c136 := Bool.eq_false_iff.mpr c136; subst c136; have H1 : (laws_FnPatternsDrawn.j9 kj132 t133 t134 t135 t138 t139 t140 t141 t144 t145 t146 t147 t148) = some r := by rw [if_neg (show ¬ (false = true) by decide)] at H; exact H
                   clear H; have H := H1; clear H1; have H' := Aside0.mk H; clear H; go_wp2
                   go_meet
                   case rel => exact ⟨_,H',⟨by have := HJ11.out; have := HJ26.out; have := HJ44.out; have := HJ95.out; have := HJ118.out; have := HJ132.out; first | omega | exact Nat.le_refl _⟩,⟨by repeat (first | (with_reducible first | exact HB.out | apply below_alloc | apply pw_below_drewN | apply below_drew1) | exact HB.out)⟩⟩
                 case rest =>
                  as_aux_lemma =>
                   clear HC135; try clear c1
                   try clear c2
                   try clear p2
                   try clear c3
                   try clear c4
                   try clear c5
                   try clear p5
                   try clear q5
                   try clear hx5
                   try clear c6
                   try clear p6
                   try clear c7
                   try clear c10
                   try clear c11
                   try clear c12
                   try clear c13
                   try clear c18
                   try clear c18b0
                   try clear c18b1
                   try clear c18b2
                   try clear c19
                   try clear c19b0
                   try clear c19b1
                   try clear c20
                   try clear c20b0
                   try clear c20b1
                   try clear c20b2
                   try clear c21
                   try clear c21b0
                   try clear c21b1
                   try clear c21b2
                   try clear c22
                   try clear c22b0
                   try clear c22b1
                   try clear c22b2
                   try clear c23
                   try clear c23b0
                   try clear c23b1
                   try clear c24
                   try clear c24b0
                   try clear c24b1
                   try clear c24b2
                   try clear c25
                   try clear c26
                   try clear c28
                   try clear c31
                   try clear c32
                   try clear c32b0
                   try clear c32b1
                   try clear c33
                   try clear c34
                   try clear c34b0
                   try clear c34b1
                   try clear c34b2
                   try clear c46
                   try clear c47
                   try clear c47b0
                   try clear c49
                   try clear c49b0
                   try clear c51
                   try clear c51b0
                   try clear c52
                   try clear c52b0
                   try clear p53
                   try clear q53
                   try clear hx53
                   try clear c54
                   try clear c54b0
                   try clear c55
                   try clear c55b0
                   try clear p56
                   try clear q56
                   try clear hx56
                   try clear c57
                   try clear c58
                   try clear c58b0
                   try clear c58b1
                   try clear c59
                   try clear c59b0
                   try clear c59b1
                   try clear c60
                   try clear c60b0
                   try clear c60b1
                   try clear c61
                   try clear c61b0
                   try clear c61b1
                   try clear c61b2
                   try clear c63
                   try clear c64
                   try clear p64
                   try clear c69
                   try clear c69b0
                   try clear c69b1
                   try clear c70
                   try clear c70b0
                   try clear c70b1
                   try clear c71
                   try clear c72
                   try clear c72b0
                   try clear c72b1
                   try clear c74
                   try clear c74b0
                   try clear c74b1
                   try clear c75
                   try clear c75b0
                   try clear c75b1
                   try clear c77
                   try clear c78
                   try clear c107
                   try clear c107b0
                   try clear c107b1
                   try clear c107b2
                   try clear c108
                   try clear c108b0
                   try clear c108b1
                   try clear c109
                   try clear c109b0
                   try clear c109b1
                   try clear c109b2
                   try clear c110
                   try clear c110b0
                   try clear c110b1
                   try clear c111
                   try clear c111b0
                   try clear c111b1
                   try clear c111b2
                   try clear c112
                   try clear c112b0
                   try clear c112b1
                   try clear c113
                   try clear c113b0
                   try clear c113b1
                   try clear c113b2
                   try clear c114
                   try clear c114b0
                   try clear c114b1
                   try clear c115
                   try clear c115b0
                   try clear c115b1
                   try clear c115b2
                   try clear c116
                   try clear c116b0
                   try clear c116b1
                   try clear c117
                   try clear c118
                   try clear c120
                   try clear c122
                   try clear c122b0
                   try clear c122b1
                   try clear c123
                   try clear c123b0
                   try clear c123b1
                   try clear c124
                   try clear c124b0
                   try clear c124b1
                   try clear c125
                   try clear c125b0
                   try clear c125b1
                   try clear c126
                   try clear c127
                   try clear c134
                   try clear c136
                   try clear c138
                   try clear c139
                   try clear c139b0
                   try clear p2
                   try clear p5
                   try clear p53
                   try clear p56
                   try clear p6
                   try clear p64
                   try clear q5
                   try clear q53
                   try clear q56
                   obtain ⟨kq,HA,HJ134,HB⟩ := hcut
                   cases kq with
                   | zero => exact absurd HA.out (by simp [laws_FnPatternsDrawn.j9])
                   | succ kj134 =>
                    have H := HA.out; clear HA; simp only [laws_FnPatternsDrawn.j9] at H; have HC143 := Aside0.mk H; clear H
                    go_upto_region 56 with (fail)
                    go_cut [422] from 518 (fun v422 wc => ∃ (kq : Nat) (x422_142 : Bool),v422 = .bool x422_142 ∧ Aside0 (laws_FnPatternsDrawn.j10 kq t133 t134 t138 t139 t140 t141 t144 t145 t146 t147 t148 x422_142 = some r) ∧ Aside0 (kq ≤ kj134) ∧ Aside0 (Below w.heap.size w wc))
                    case first =>
                     have H := HC143.out; clear HC143
                     by_cases c144 : t135 = true
                     ·
                      subst c144; have H1 : (laws_FnPatternsDrawn.j10 kj134 t133 t134 t138 t139 t140 t141 t144 t145 t146 t147 t148 (decide (t133 ≤ 4))) = some r := by rw [if_pos rfl] at H; exact H
                      clear H; have H := H1; clear H1; have H' := Aside0.mk H; clear H; go_wp2
                      go_meet
                      case rel => exact ⟨_,(decide (t133 ≤ 4)),(by first | rfl | (simp; done) | (simp [*]; done)),H',⟨by have := HJ11.out; have := HJ26.out; have := HJ44.out; have := HJ95.out; have := HJ118.out; have := HJ132.out; have := HJ134.out; first | omega | exact Nat.le_refl _⟩,⟨by repeat (first | (with_reducible first | exact HB.out | apply below_alloc | apply pw_below_drewN | apply below_drew1) | exact HB.out)⟩⟩
                     ·
                      replace c144 := Bool.eq_false_iff.mpr c144; subst c144; have H1 : (laws_FnPatternsDrawn.j10 kj134 t133 t134 t138 t139 t140 t141 t144 t145 t146 t147 t148 false) = some r := by rw [if_neg (show ¬ (false = true) by decide)] at H; exact H
                      clear H; have H := H1; clear H1; have H' := Aside0.mk H; clear H; go_wp2
                      go_meet
                      case rel => exact ⟨_,(false),(by first | rfl | (simp; done) | (simp [*]; done)),H',⟨by have := HJ11.out; have := HJ26.out; have := HJ44.out; have := HJ95.out; have := HJ118.out; have := HJ132.out; have := HJ134.out; first | omega | exact Nat.le_refl _⟩,⟨by repeat (first | (with_reducible first | exact HB.out | apply below_alloc | apply pw_below_drewN | apply below_drew1) | exact HB.out)⟩⟩
                    case rest =>
                     clear HC143; try clear c1
                     try clear c2
                     try clear p2
                     try clear c3
                     try clear c4
                     try clear c5
                     try clear p5
                     try clear q5
                     try clear hx5
                     try clear c6
                     try clear p6
                     try clear c7
                     try clear c10
                     try clear c11
                     try clear c12
                     try clear c13
                     try clear c14
                     try clear c18
                     try clear c18b0
                     try clear c18b1
                     try clear c18b2
                     try clear c19
                     try clear c19b0
                     try clear c19b1
                     try clear c20
                     try clear c20b0
                     try clear c20b1
                     try clear c20b2
                     try clear c21
                     try clear c21b0
                     try clear c21b1
                     try clear c21b2
                     try clear c22
                     try clear c22b0
                     try clear c22b1
                     try clear c22b2
                     try clear c23
                     try clear c23b0
                     try clear c23b1
                     try clear c24
                     try clear c24b0
                     try clear c24b1
                     try clear c24b2
                     try clear c25
                     try clear c26
                     try clear c28
                     try clear c31
                     try clear c32
                     try clear c32b0
                     try clear c32b1
                     try clear c33
                     try clear c34
                     try clear c34b0
                     try clear c34b1
                     try clear c34b2
                     try clear c46
                     try clear c47
                     try clear c47b0
                     try clear c49
                     try clear c49b0
                     try clear c51
                     try clear c51b0
                     try clear c52
                     try clear c52b0
                     try clear p53
                     try clear q53
                     try clear hx53
                     try clear c54
                     try clear c54b0
                     try clear c55
                     try clear c55b0
                     try clear p56
                     try clear q56
                     try clear hx56
                     try clear c57
                     try clear c58
                     try clear c58b0
                     try clear c58b1
                     try clear c59
                     try clear c59b0
                     try clear c59b1
                     try clear c60
                     try clear c60b0
                     try clear c60b1
                     try clear c61
                     try clear c61b0
                     try clear c61b1
                     try clear c61b2
                     try clear c63
                     try clear c64
                     try clear p64
                     try clear c69
                     try clear c69b0
                     try clear c69b1
                     try clear c70
                     try clear c70b0
                     try clear c70b1
                     try clear c71
                     try clear c72
                     try clear c72b0
                     try clear c72b1
                     try clear c74
                     try clear c74b0
                     try clear c74b1
                     try clear c75
                     try clear c75b0
                     try clear c75b1
                     try clear c77
                     try clear c78
                     try clear c107
                     try clear c107b0
                     try clear c107b1
                     try clear c107b2
                     try clear c108
                     try clear c108b0
                     try clear c108b1
                     try clear c109
                     try clear c109b0
                     try clear c109b1
                     try clear c109b2
                     try clear c110
                     try clear c110b0
                     try clear c110b1
                     try clear c111
                     try clear c111b0
                     try clear c111b1
                     try clear c111b2
                     try clear c112
                     try clear c112b0
                     try clear c112b1
                     try clear c113
                     try clear c113b0
                     try clear c113b1
                     try clear c113b2
                     try clear c114
                     try clear c114b0
                     try clear c114b1
                     try clear c115
                     try clear c115b0
                     try clear c115b1
                     try clear c115b2
                     try clear c116
                     try clear c116b0
                     try clear c116b1
                     try clear c117
                     try clear c118
                     try clear c120
                     try clear c122
                     try clear c122b0
                     try clear c122b1
                     try clear c123
                     try clear c123b0
                     try clear c123b1
                     try clear c124
                     try clear c124b0
                     try clear c124b1
                     try clear c125
                     try clear c125b0
                     try clear c125b1
                     try clear c126
                     try clear c127
                     try clear c134
                     try clear c136
                     try clear c138
                     try clear c139
                     try clear c139b0
                     try clear c144
                     try clear p2
                     try clear p5
                     try clear p53
                     try clear p56
                     try clear p6
                     try clear p64
                     try clear q5
                     try clear q53
                     try clear q56
                     obtain ⟨kq,x422_142,rfl,HA,HJ142,HB⟩ := hcut
                     cases kq with
                     | zero => exact absurd HA.out (by simp [laws_FnPatternsDrawn.j10])
                     | succ kj142 =>
                      have H := HA.out; clear HA; simp only [laws_FnPatternsDrawn.j10] at H; have HC145 := Aside0.mk H; clear H
                      go_upto_if 422 with (fail)
                      go_cut [] from 518 (fun wc => ∃ (kq : Nat),Aside0 (laws_FnPatternsDrawn.j12 kq t138 t139 t140 t141 t144 t145 t146 t147 t148 = some r) ∧ Aside0 (kq ≤ kj142) ∧ Aside0 (Below w.heap.size w wc))
                      case first =>
                       have H := HC145.out; clear HC145
                       by_cases c146 : x422_142 = true
                       ·
                        subst c146; have H1 : (laws_FnPatternsDrawn.l1 kj142 t133 t134 t138 t139 t140 t141 t144 t145 t146 t147 t148 0 0) = some r := by rw [if_pos rfl] at H; exact H
                        clear H; have H := H1; clear H1; have H' := Aside0.mk H; clear H; go_wp2
                        go_loopg [59,60] kj142 (fun kq v59 v60 w' => ∃ (x59_9 : Int) (x60_9 : Int),v59 = .int .i64 x59_9 ∧ v60 = .int .i64 x60_9 ∧ Aside0 (laws_FnPatternsDrawn.l1 kq t133 t134 t138 t139 t140 t141 t144 t145 t146 t147 t148 x59_9 x60_9 = some r) ∧ Aside0 (kq ≤ kj142) ∧ Aside0 (Below w.heap.size w w'))
                        case atStart => exact ⟨(0),(0),(by first | rfl | (simp; done) | (simp [*]; done)),(by first | rfl | (simp; done) | (simp [*]; done)),H',⟨Nat.le_refl _⟩,⟨by repeat (first | (with_reducible first | exact HB.out | apply below_alloc | apply pw_below_drewN | apply below_drew1) | exact HB.out)⟩⟩
                        case round =>
                         clear H'; try clear c1
                         try clear c2
                         try clear p2
                         try clear c3
                         try clear c4
                         try clear c5
                         try clear p5
                         try clear q5
                         try clear hx5
                         try clear c6
                         try clear p6
                         try clear c7
                         try clear c10
                         try clear c11
                         try clear c12
                         try clear c13
                         try clear c14
                         try clear c18
                         try clear c18b0
                         try clear c18b1
                         try clear c18b2
                         try clear c19
                         try clear c19b0
                         try clear c19b1
                         try clear c20
                         try clear c20b0
                         try clear c20b1
                         try clear c20b2
                         try clear c21
                         try clear c21b0
                         try clear c21b1
                         try clear c21b2
                         try clear c22
                         try clear c22b0
                         try clear c22b1
                         try clear c22b2
                         try clear c23
                         try clear c23b0
                         try clear c23b1
                         try clear c24
                         try clear c24b0
                         try clear c24b1
                         try clear c24b2
                         try clear c25
                         try clear c26
                         try clear c28
                         try clear c31
                         try clear c32
                         try clear c32b0
                         try clear c32b1
                         try clear c33
                         try clear c34
                         try clear c34b0
                         try clear c34b1
                         try clear c34b2
                         try clear c46
                         try clear c47
                         try clear c47b0
                         try clear c49
                         try clear c49b0
                         try clear c51
                         try clear c51b0
                         try clear c52
                         try clear c52b0
                         try clear p53
                         try clear q53
                         try clear hx53
                         try clear c54
                         try clear c54b0
                         try clear c55
                         try clear c55b0
                         try clear p56
                         try clear q56
                         try clear hx56
                         try clear c57
                         try clear c58
                         try clear c58b0
                         try clear c58b1
                         try clear c59
                         try clear c59b0
                         try clear c59b1
                         try clear c60
                         try clear c60b0
                         try clear c60b1
                         try clear c61
                         try clear c61b0
                         try clear c61b1
                         try clear c61b2
                         try clear c63
                         try clear c64
                         try clear p64
                         try clear c69
                         try clear c69b0
                         try clear c69b1
                         try clear c70
                         try clear c70b0
                         try clear c70b1
                         try clear c71
                         try clear c72
                         try clear c72b0
                         try clear c72b1
                         try clear c74
                         try clear c74b0
                         try clear c74b1
                         try clear c75
                         try clear c75b0
                         try clear c75b1
                         try clear c77
                         try clear c78
                         try clear c107
                         try clear c107b0
                         try clear c107b1
                         try clear c107b2
                         try clear c108
                         try clear c108b0
                         try clear c108b1
                         try clear c109
                         try clear c109b0
                         try clear c109b1
                         try clear c109b2
                         try clear c110
                         try clear c110b0
                         try clear c110b1
                         try clear c111
                         try clear c111b0
                         try clear c111b1
                         try clear c111b2
                         try clear c112
                         try clear c112b0
                         try clear c112b1
                         try clear c113
                         try clear c113b0
                         try clear c113b1
                         try clear c113b2
                         try clear c114
                         try clear c114b0
                         try clear c114b1
                         try clear c115
                         try clear c115b0
                         try clear c115b1
                         try clear c115b2
                         try clear c116
                         try clear c116b0
                         try clear c116b1
                         try clear c117
                         try clear c118
                         try clear c120
                         try clear c122
                         try clear c122b0
                         try clear c122b1
                         try clear c123
                         try clear c123b0
                         try clear c123b1
                         try clear c124
                         try clear c124b0
                         try clear c124b1
                         try clear c125
                         try clear c125b0
                         try clear c125b1
                         try clear c126
                         try clear c127
                         try clear c134
                         try clear c136
                         try clear c138
                         try clear c139
                         try clear c139b0
                         try clear c144
                         try clear c146
                         try clear p2
                         try clear p5
                         try clear p53
                         try clear p56
                         try clear p6
                         try clear p64
                         try clear q5
                         try clear q53
                         try clear q56
                         obtain ⟨x59_9,x60_9,rfl,rfl,HA,HK9,HB⟩ := hrel
                         cases gk with
                         | zero => exact absurd HA.out (by simp [laws_FnPatternsDrawn.l1])
                         | succ k9 =>
                          have H := HA.out; clear HA; simp only [laws_FnPatternsDrawn.l1] at H
                          by_cases c147 : x60_9 < 9
                          ·
                           rw [if_pos c147] at H; have c147b0 : decide (x60_9 < 9) = true := decide_eq_true c147; clear c147
                           (first | rw [c147b0] | (simp only [i64_w,i32_w]; rw [c147b0]) | skip)
                           by_cases c148 : 0 ≤ x60_9
                           ·
                            rw [if_pos c148] at H; have c148b0 := eq_true c148; have c148b1 : decide (0 ≤ x60_9) = true := decide_eq_true c148; clear c148
                            by_cases c149 : x60_9 ≤ (wrap64 (x60_9 + 1))
                            ·
                             rw [if_pos c149] at H; have c149b0 := eq_true c149; have c149b1 : decide (x60_9 ≤ (wrap64 (x60_9 + 1))) = true := decide_eq_true c149
                             by_cases c150 : (wrap64 (x60_9 + 1)) ≤ 9
                             ·
                              rw [if_pos c150] at H; have c150b0 := eq_true c150; have c150b1 : decide ((wrap64 (x60_9 + 1)) ≤ 9) = true := decide_eq_true c150; replace H := Option.bind_eq_some_iff.mp H; obtain ⟨⟨t155,t156⟩,A1510,H⟩ := H; replace H : (if t156 = true then (laws_FnPatternsDrawn.l1 k9 t133 t134 t138 t139 t140 t141 t144 t145 t146 t147 t148 (wrap64 (x59_9 + t155)) (wrap64 (x60_9 + 1))) else none) = some r := H; have A151 := Aside0.mk A1510; clear A1510
                              by_cases c152 : t156 = true
                              ·
                               subst c152; have H1 : (laws_FnPatternsDrawn.l1 k9 t133 t134 t138 t139 t140 t141 t144 t145 t146 t147 t148 (wrap64 (x59_9 + t155)) (wrap64 (x60_9 + 1))) = some r := by rw [if_pos rfl] at H; exact H
                               clear H; have H := H1; clear H1; have H' := Aside0.mk H; clear H; go_wp2_with (first | (go_at_call 13; (with_reducible refine (impl_CountDrawn.calls k9 ((⟨#[49,50,51,52,53,54,55,56,57]⟩ : ByteArray).extract (x60_9 : Int).toNat ((wrap64 (x60_9 + 1)) : Int).toNat) t133 t155 true _ A151.out).mono ?_); rintro e w153 ⟨rfl,hb⟩; have n0_ := Aside0.mk (below_step (by repeat (first | (with_reducible first | exact HB.out | apply below_alloc | apply pw_below_drewN | apply below_drew1) | exact HB.out)) hb); clear HB; have HB := n0_; clear n0_; (try clear hb); (try clear hb2); (try clear hk); (try clear hi)))
                               go_roundg k9
                               case measure => have := HJ11.out; have := HJ26.out; have := HJ44.out; have := HJ95.out; have := HJ118.out; have := HJ132.out; have := HJ134.out; have := HJ142.out; have := HK9.out; omega
                               case rel => exact ⟨(wrap64 (x59_9 + t155)),(wrap64 (x60_9 + 1)),(by first | rfl | (simp; done) | (simp [*]; done)),(by first | rfl | (simp; done) | (simp [*]; done)),H',⟨by have := HJ11.out; have := HJ26.out; have := HJ44.out; have := HJ95.out; have := HJ118.out; have := HJ132.out; have := HJ134.out; have := HJ142.out; have := HK9.out; omega⟩,⟨by repeat (first | (with_reducible first | exact HB.out | apply below_alloc | apply pw_below_drewN | apply below_drew1) | exact HB.out)⟩⟩
                              ·
                               replace c152 := Bool.eq_false_iff.mpr c152; subst c152; have H1 : (none : Option Bool) = some r := by rw [if_neg (show ¬ (false = true) by decide)] at H; exact H
                               exact absurd H1 (by simp)
                             · rw [if_neg c150] at H; exact absurd H (by simp)
                            · rw [if_neg c149] at H; exact absurd H (by simp)
                           · rw [if_neg c148] at H; exact absurd H (by simp)
                          ·
                           rw [if_neg c147] at H; have c147b0 : decide (x60_9 < 9) = false := decide_eq_false c147; clear c147
                           (first | rw [c147b0] | (simp only [i64_w,i32_w]; rw [c147b0]) | skip)
                           by_cases c155 : x59_9 = t134
                           ·
                            rw [if_pos c155] at H; have c155b0 : (x59_9 == t134) = true := beq_iff_eq.mpr c155; have c155b1 : (x59_9 != t134) = false := bne_eq_false_iff_eq.mpr c155; clear c155; have H' := Aside0.mk H; clear H; go_wp2
                            go_meet
                            case rel => exact ⟨_,H',⟨by have := HJ11.out; have := HJ26.out; have := HJ44.out; have := HJ95.out; have := HJ118.out; have := HJ132.out; have := HJ134.out; have := HJ142.out; have := HK9.out; first | omega | exact Nat.le_refl _⟩,⟨by repeat (first | (with_reducible first | exact HB.out | apply below_alloc | apply pw_below_drewN | apply below_drew1) | exact HB.out)⟩⟩
                           · rw [if_neg c155] at H; exact absurd H (by simp)
                       ·
                        replace c146 := Bool.eq_false_iff.mpr c146; subst c146; have H1 : (laws_FnPatternsDrawn.j12 kj142 t138 t139 t140 t141 t144 t145 t146 t147 t148) = some r := by rw [if_neg (show ¬ (false = true) by decide)] at H; exact H
                        clear H; have H := H1; clear H1; have H' := Aside0.mk H; clear H; go_wp2
                        go_meet
                        case rel => exact ⟨_,H',⟨by have := HJ11.out; have := HJ26.out; have := HJ44.out; have := HJ95.out; have := HJ118.out; have := HJ132.out; have := HJ134.out; have := HJ142.out; first | omega | exact Nat.le_refl _⟩,⟨by repeat (first | (with_reducible first | exact HB.out | apply below_alloc | apply pw_below_drewN | apply below_drew1) | exact HB.out)⟩⟩
                      case rest =>
                       clear HC145; try clear c1
                       try clear c2
                       try clear p2
                       try clear c3
                       try clear c4
                       try clear c5
                       try clear p5
                       try clear q5
                       try clear hx5
                       try clear c6
                       try clear p6
                       try clear c7
                       try clear c10
                       try clear c11
                       try clear c12
                       try clear c13
                       try clear c14
                       try clear c15
                       try clear c18
                       try clear c18b0
                       try clear c18b1
                       try clear c18b2
                       try clear c19
                       try clear c19b0
                       try clear c19b1
                       try clear c20
                       try clear c20b0
                       try clear c20b1
                       try clear c20b2
                       try clear c21
                       try clear c21b0
                       try clear c21b1
                       try clear c21b2
                       try clear c22
                       try clear c22b0
                       try clear c22b1
                       try clear c22b2
                       try clear c23
                       try clear c23b0
                       try clear c23b1
                       try clear c24
                       try clear c24b0
                       try clear c24b1
                       try clear c24b2
                       try clear c25
                       try clear c26
                       try clear c28
                       try clear c31
                       try clear c32
                       try clear c32b0
                       try clear c32b1
                       try clear c33
                       try clear c34
                       try clear c34b0
                       try clear c34b1
                       try clear c34b2
                       try clear c46
                       try clear c47
                       try clear c47b0
                       try clear c49
                       try clear c49b0
                       try clear c51
                       try clear c51b0
                       try clear c52
                       try clear c52b0
                       try clear p53
                       try clear q53
                       try clear hx53
                       try clear c54
                       try clear c54b0
                       try clear c55
                       try clear c55b0
                       try clear p56
                       try clear q56
                       try clear hx56
                       try clear c57
                       try clear c58
                       try clear c58b0
                       try clear c58b1
                       try clear c59
                       try clear c59b0
                       try clear c59b1
                       try clear c60
                       try clear c60b0
                       try clear c60b1
                       try clear c61
                       try clear c61b0
                       try clear c61b1
                       try clear c61b2
                       try clear c63
                       try clear c64
                       try clear p64
                       try clear c69
                       try clear c69b0
                       try clear c69b1
                       try clear c70
                       try clear c70b0
                       try clear c70b1
                       try clear c71
                       try clear c72
                       try clear c72b0
                       try clear c72b1
                       try clear c74
                       try clear c74b0
                       try clear c74b1
                       try clear c75
                       try clear c75b0
                       try clear c75b1
                       try clear c77
                       try clear c78
                       try clear c107
                       try clear c107b0
                       try clear c107b1
                       try clear c107b2
                       try clear c108
                       try clear c108b0
                       try clear c108b1
                       try clear c109
                       try clear c109b0
                       try clear c109b1
                       try clear c109b2
                       try clear c110
                       try clear c110b0
                       try clear c110b1
                       try clear c111
                       try clear c111b0
                       try clear c111b1
                       try clear c111b2
                       try clear c112
                       try clear c112b0
                       try clear c112b1
                       try clear c113
                       try clear c113b0
                       try clear c113b1
                       try clear c113b2
                       try clear c114
                       try clear c114b0
                       try clear c114b1
                       try clear c115
                       try clear c115b0
                       try clear c115b1
                       try clear c115b2
                       try clear c116
                       try clear c116b0
                       try clear c116b1
                       try clear c117
                       try clear c118
                       try clear c120
                       try clear c122
                       try clear c122b0
                       try clear c122b1
                       try clear c123
                       try clear c123b0
                       try clear c123b1
                       try clear c124
                       try clear c124b0
                       try clear c124b1
                       try clear c125
                       try clear c125b0
                       try clear c125b1
                       try clear c126
                       try clear c127
                       try clear c134
                       try clear c136
                       try clear c138
                       try clear c139
                       try clear c139b0
                       try clear c144
                       try clear c146
                       try clear c147
                       try clear c147b0
                       try clear c148
                       try clear c148b0
                       try clear c148b1
                       try clear c149
                       try clear c149b0
                       try clear c149b1
                       try clear c150
                       try clear c150b0
                       try clear c150b1
                       try clear c152
                       try clear c155
                       try clear c155b0
                       try clear c155b1
                       try clear p2
                       try clear p5
                       try clear p53
                       try clear p56
                       try clear p6
                       try clear p64
                       try clear q5
                       try clear q53
                       try clear q56
                       obtain ⟨kq,HA,HJ144,HB⟩ := hcut
                       cases kq with
                       | zero => exact absurd HA.out (by simp [laws_FnPatternsDrawn.j12])
                       | succ kj144 =>
                        have H := HA.out; clear HA; simp only [laws_FnPatternsDrawn.j12] at H; have HC156 := Aside0.mk H; clear H
                        go_upto_if 444 with (fail)
                        go_cut [] from 444 to 444 (fun wc => ∃ (kq : Nat),Aside0 (laws_FnPatternsDrawn.j13 kq t144 t145 t146 t147 t148 = some r) ∧ Aside0 (kq ≤ kj144) ∧ Aside0 (Below w.heap.size w wc))
                        case first =>
                         have H := HC156.out; clear HC156
                         by_cases c157 : t141 = true
                         ·
                          subst c157; have H1 : ((impl_WheelTurns.f kj144 t139 t138).bind fun bt157 => (if bt157.2 = true then (if bt157.1 = t140 then (if t140 < 0 then none else (if t140 > (wrap64 (5 * (t138.size : Int))) then none else (if ((t140 == 0) != (t138.toList == t139.toList)) = true then none else (laws_FnPatternsDrawn.j13 kj144 t144 t145 t146 t147 t148)))) else none) else none)) = some r := by rw [if_pos rfl] at H; exact H
                          clear H; have H := H1; clear H1; replace H := Option.bind_eq_some_iff.mp H; obtain ⟨⟨t157,t158⟩,A1580,H⟩ := H; replace H : (if t158 = true then (if t157 = t140 then (if t140 < 0 then none else (if t140 > (wrap64 (5 * (t138.size : Int))) then none else (if ((t140 == 0) != (t138.toList == t139.toList)) = true then none else (laws_FnPatternsDrawn.j13 kj144 t144 t145 t146 t147 t148)))) else none) else none) = some r := H; have A158 := Aside0.mk A1580; clear A1580
                          by_cases c159 : t158 = true
                          ·
                           subst c159; have H1 : (if t157 = t140 then (if t140 < 0 then none else (if t140 > (wrap64 (5 * (t138.size : Int))) then none else (if ((t140 == 0) != (t138.toList == t139.toList)) = true then none else (laws_FnPatternsDrawn.j13 kj144 t144 t145 t146 t147 t148)))) else none) = some r := by rw [if_pos rfl] at H; exact H
                           clear H; have H := H1; clear H1
                           by_cases c160 : t157 = t140
                           ·
                            rw [if_pos c160] at H; have c160b0 : (t157 == t140) = true := beq_iff_eq.mpr c160; have c160b1 : (t157 != t140) = false := bne_eq_false_iff_eq.mpr c160; clear c160
                            (first | rw [c160b0] | (simp only [i64_w,i32_w]; rw [c160b0]) | skip)
                            by_cases c161 : t140 < 0
                            · rw [if_pos c161] at H; exact absurd H (by simp)
                            ·
                             rw [if_neg c161] at H; have c161b0 : decide (t140 < 0) = false := decide_eq_false c161; clear c161
                             by_cases c163 : t140 > (wrap64 (5 * (t138.size : Int)))
                             · rw [if_pos c163] at H; exact absurd H (by simp)
                             ·
                              rw [if_neg c163] at H; have c163b0 : decide ((wrap64 (5 * (t138.size : Int))) < t140) = false := decide_eq_false c163; clear c163
                              by_cases c165 : ((t140 == 0) != (t138.toList == t139.toList)) = true
                              · rw [if_pos c165] at H; exact absurd H (by simp)
                              ·
                               rw [if_neg c165] at H; have c165b0 : ((t140 == 0) != (t138.toList == t139.toList)) = false := by simpa using c165
                               (try (have c165b1 : decide ((t140 == 0) = (t138.toList == t139.toList)) = true := by simpa using c165))
                               (try (have c165b2 : ((t140 == 0) == (t138.toList == t139.toList)) = true := by simpa using c165))
                               clear c165; have H' := Aside0.mk H; clear H; go_wp2_with (first | (go_at_call 21; (with_reducible refine (impl_WheelTurns.calls kj144 t139 t138 t157 true _ A158.out).mono ?_); rintro e w167 ⟨rfl,hb⟩; have n0_ := Aside0.mk (below_step (by repeat (first | (with_reducible first | exact HB.out | apply below_alloc | apply pw_below_drewN | apply below_drew1) | exact HB.out)) hb); clear HB; have HB := n0_; clear n0_; (try clear hb); (try clear hb2); (try clear hk); (try clear hi)))
                               go_meet
                               case rel => exact ⟨_,H',⟨by have := HJ11.out; have := HJ26.out; have := HJ44.out; have := HJ95.out; have := HJ118.out; have := HJ132.out; have := HJ134.out; have := HJ142.out; have := HJ144.out; first | omega | exact Nat.le_refl _⟩,⟨by repeat (first | (with_reducible first | exact HB.out | apply below_alloc | apply pw_below_drewN | apply below_drew1) | exact HB.out)⟩⟩
                           · rw [if_neg c160] at H; exact absurd H (by simp)
                          ·
                           replace c159 := Bool.eq_false_iff.mpr c159; subst c159; have H1 : (none : Option Bool) = some r := by rw [if_neg (show ¬ (false = true) by decide)] at H; exact H
                           exact absurd H1 (by simp)
                         ·
                          replace c157 := Bool.eq_false_iff.mpr c157; subst c157; have H1 : (laws_FnPatternsDrawn.j13 kj144 t144 t145 t146 t147 t148) = some r := by rw [if_neg (show ¬ (false = true) by decide)] at H; exact H
                          clear H; have H := H1; clear H1; have H' := Aside0.mk H; clear H; go_wp2
                          go_meet
                          case rel => exact ⟨_,H',⟨by have := HJ11.out; have := HJ26.out; have := HJ44.out; have := HJ95.out; have := HJ118.out; have := HJ132.out; have := HJ134.out; have := HJ142.out; have := HJ144.out; first | omega | exact Nat.le_refl _⟩,⟨by repeat (first | (with_reducible first | exact HB.out | apply below_alloc | apply pw_below_drewN | apply below_drew1) | exact HB.out)⟩⟩
                        case rest =>
                         clear HC156; try clear c1
                         try clear c2
                         try clear p2
                         try clear c3
                         try clear c4
                         try clear c5
                         try clear p5
                         try clear q5
                         try clear hx5
                         try clear c6
                         try clear p6
                         try clear c7
                         try clear c10
                         try clear c11
                         try clear c12
                         try clear c13
                         try clear c14
                         try clear c15
                         try clear c16
                         try clear c18
                         try clear c18b0
                         try clear c18b1
                         try clear c18b2
                         try clear c19
                         try clear c19b0
                         try clear c19b1
                         try clear c20
                         try clear c20b0
                         try clear c20b1
                         try clear c20b2
                         try clear c21
                         try clear c21b0
                         try clear c21b1
                         try clear c21b2
                         try clear c22
                         try clear c22b0
                         try clear c22b1
                         try clear c22b2
                         try clear c23
                         try clear c23b0
                         try clear c23b1
                         try clear c24
                         try clear c24b0
                         try clear c24b1
                         try clear c24b2
                         try clear c25
                         try clear c26
                         try clear c28
                         try clear c31
                         try clear c32
                         try clear c32b0
                         try clear c32b1
                         try clear c33
                         try clear c34
                         try clear c34b0
                         try clear c34b1
                         try clear c34b2
                         try clear c46
                         try clear c47
                         try clear c47b0
                         try clear c49
                         try clear c49b0
                         try clear c51
                         try clear c51b0
                         try clear c52
                         try clear c52b0
                         try clear p53
                         try clear q53
                         try clear hx53
                         try clear c54
                         try clear c54b0
                         try clear c55
                         try clear c55b0
                         try clear p56
                         try clear q56
                         try clear hx56
                         try clear c57
                         try clear c58
                         try clear c58b0
                         try clear c58b1
                         try clear c59
                         try clear c59b0
                         try clear c59b1
                         try clear c60
                         try clear c60b0
                         try clear c60b1
                         try clear c61
                         try clear c61b0
                         try clear c61b1
                         try clear c61b2
                         try clear c63
                         try clear c64
                         try clear p64
                         try clear c69
                         try clear c69b0
                         try clear c69b1
                         try clear c70
                         try clear c70b0
                         try clear c70b1
                         try clear c71
                         try clear c72
                         try clear c72b0
                         try clear c72b1
                         try clear c74
                         try clear c74b0
                         try clear c74b1
                         try clear c75
                         try clear c75b0
                         try clear c75b1
                         try clear c77
                         try clear c78
                         try clear c107
                         try clear c107b0
                         try clear c107b1
                         try clear c107b2
                         try clear c108
                         try clear c108b0
                         try clear c108b1
                         try clear c109
                         try clear c109b0
                         try clear c109b1
                         try clear c109b2
                         try clear c110
                         try clear c110b0
                         try clear c110b1
                         try clear c111
                         try clear c111b0
                         try clear c111b1
                         try clear c111b2
                         try clear c112
                         try clear c112b0
                         try clear c112b1
                         try clear c113
                         try clear c113b0
                         try clear c113b1
                         try clear c113b2
                         try clear c114
                         try clear c114b0
                         try clear c114b1
                         try clear c115
                         try clear c115b0
                         try clear c115b1
                         try clear c115b2
                         try clear c116
                         try clear c116b0
                         try clear c116b1
                         try clear c117
                         try clear c118
                         try clear c120
                         try clear c122
                         try clear c122b0
                         try clear c122b1
                         try clear c123
                         try clear c123b0
                         try clear c123b1
                         try clear c124
                         try clear c124b0
                         try clear c124b1
                         try clear c125
                         try clear c125b0
                         try clear c125b1
                         try clear c126
                         try clear c127
                         try clear c134
                         try clear c136
                         try clear c138
                         try clear c139
                         try clear c139b0
                         try clear c144
                         try clear c146
                         try clear c147
                         try clear c147b0
                         try clear c148
                         try clear c148b0
                         try clear c148b1
                         try clear c149
                         try clear c149b0
                         try clear c149b1
                         try clear c150
                         try clear c150b0
                         try clear c150b1
                         try clear c152
                         try clear c155
                         try clear c155b0
                         try clear c155b1
                         try clear c157
                         try clear c159
                         try clear c160
                         try clear c160b0
                         try clear c160b1
                         try clear c161
                         try clear c161b0
                         try clear c163
                         try clear c163b0
                         try clear c165
                         try clear c165b0
                         try clear c165b1
                         try clear c165b2
                         try clear p2
                         try clear p5
                         try clear p53
                         try clear p56
                         try clear p6
                         try clear p64
                         try clear q5
                         try clear q53
                         try clear q56
                         obtain ⟨kq,HA,HJ155,HB⟩ := hcut
                         cases kq with
                         | zero => exact absurd HA.out (by simp [laws_FnPatternsDrawn.j13])
                         | succ kj155 =>
                          have H := HA.out; clear HA; simp only [laws_FnPatternsDrawn.j13] at H
                          by_cases c170 : t148 = true
                          ·
                           subst c170; have H1 : ((impl_TurnWheel.f t147 t145 (wrap64 (-t146))).bind fun bt159 => ((impl_WheelTurns.f kj155 t144 t147).bind fun bt161 => (if (Int.tmod t146 10) < 0 then (laws_FnPatternsDrawn.j14 kj155 t144 bt159.1 bt159.2 bt161.1 bt161.2 (wrap64 (-(Int.tmod t146 10)))) else (laws_FnPatternsDrawn.j14 kj155 t144 bt159.1 bt159.2 bt161.1 bt161.2 (Int.tmod t146 10))))) = some r := by rw [if_pos rfl] at H; exact H
                           clear H; have H := H1; clear H1; replace H := Option.bind_eq_some_iff.mp H; obtain ⟨⟨t159,t160⟩,A1710,H⟩ := H; replace H : ((impl_WheelTurns.f kj155 t144 t147).bind fun bt161 => (if (Int.tmod t146 10) < 0 then (laws_FnPatternsDrawn.j14 kj155 t144 t159 t160 bt161.1 bt161.2 (wrap64 (-(Int.tmod t146 10)))) else (laws_FnPatternsDrawn.j14 kj155 t144 t159 t160 bt161.1 bt161.2 (Int.tmod t146 10)))) = some r := H; have A171 := Aside0.mk A1710; clear A1710; replace H := Option.bind_eq_some_iff.mp H; obtain ⟨⟨t161,t162⟩,A1720,H⟩ := H; replace H : (if (Int.tmod t146 10) < 0 then (laws_FnPatternsDrawn.j14 kj155 t144 t159 t160 t161 t162 (wrap64 (-(Int.tmod t146 10)))) else (laws_FnPatternsDrawn.j14 kj155 t144 t159 t160 t161 t162 (Int.tmod t146 10))) = some r := H; have A172 := Aside0.mk A1720; clear A1720; have HC173 := Aside0.mk H; clear H
                           go_upto_if 495 with (first | (go_at_call 24; (with_reducible refine (impl_TurnWheel.calls t147 t145 (wrap64 (-t146)) t159 t160 _ A171.out).mono ?_); rintro e w174 ⟨rfl,hb⟩; have n0_ := Aside0.mk (below_step (by repeat (first | (with_reducible first | exact HB.out | apply below_alloc | apply pw_below_drewN | apply below_drew1) | exact HB.out)) hb); clear HB; have HB := n0_; clear n0_; (try clear hb); (try clear hb2); (try clear hk); (try clear hi)) | (go_at_call 21; (with_reducible refine (impl_WheelTurns.calls kj155 t144 t147 t161 t162 _ A172.out).mono ?_); rintro e w175 ⟨rfl,hb⟩; have n0_ := Aside0.mk (below_step (by repeat (first | (with_reducible first | exact HB.out | apply below_alloc | apply pw_below_drewN | apply below_drew1) | exact HB.out)) hb); clear HB; have HB := n0_; clear n0_; (try clear hb); (try clear hb2); (try clear hk); (try clear hi)))
                           (try simp only [Act.put,List.setIfInBounds_toArray,List.set_cons_zero,List.set_cons_succ])
                           go_cut [69] from 477 to 495 (fun v69 wc => ∃ (kq : Nat) (x69_172 : Int),v69 = .int .i64 x69_172 ∧ Aside0 (laws_FnPatternsDrawn.j14 kq t144 t159 t160 t161 t162 x69_172 = some r) ∧ Aside0 (kq ≤ kj155) ∧ Aside0 (Below w.heap.size w wc))
                           case first =>
                            have H := HC173.out; clear HC173
                            by_cases c176 : (Int.tmod t146 10) < 0
                            ·
                             rw [if_pos c176] at H; have c176b0 : decide ((Int.tmod t146 10) < 0) = true := decide_eq_true c176; clear c176
                             (first | rw [c176b0] | (simp only [i64_w,i32_w]; rw [c176b0]) | skip)
                             have H' := Aside0.mk H; clear H; go_wp2
                             go_meet
                             case rel => exact ⟨_,(wrap64 (-(Int.tmod t146 10))),(by first | rfl | (simp; done) | (simp [*]; done)),H',⟨by have := HJ11.out; have := HJ26.out; have := HJ44.out; have := HJ95.out; have := HJ118.out; have := HJ132.out; have := HJ134.out; have := HJ142.out; have := HJ144.out; have := HJ155.out; first | omega | exact Nat.le_refl _⟩,⟨by repeat (first | (with_reducible first | exact HB.out | apply below_alloc | apply pw_below_drewN | apply below_drew1) | exact HB.out)⟩⟩
                            ·
                             rw [if_neg c176] at H; have c176b0 : decide ((Int.tmod t146 10) < 0) = false := decide_eq_false c176; clear c176
                             (first | rw [c176b0] | (simp only [i64_w,i32_w]; rw [c176b0]) | skip)
                             have H' := Aside0.mk H; clear H; go_wp2
                             go_meet
                             case rel => exact ⟨_,(Int.tmod t146 10),(by first | rfl | (simp; done) | (simp [*]; done)),H',⟨by have := HJ11.out; have := HJ26.out; have := HJ44.out; have := HJ95.out; have := HJ118.out; have := HJ132.out; have := HJ134.out; have := HJ142.out; have := HJ144.out; have := HJ155.out; first | omega | exact Nat.le_refl _⟩,⟨by repeat (first | (with_reducible first | exact HB.out | apply below_alloc | apply pw_below_drewN | apply below_drew1) | exact HB.out)⟩⟩
                           case rest =>
                            clear HC173; try clear c1
                            try clear c2
                            try clear p2
                            try clear c3
                            try clear c4
                            try clear c5
                            try clear p5
                            try clear q5
                            try clear hx5
                            try clear c6
                            try clear p6
                            try clear c7
                            try clear c10
                            try clear c11
                            try clear c12
                            try clear c13
                            try clear c14
                            try clear c15
                            try clear c16
                            try clear c17
                            try clear c18
                            try clear c18b0
                            try clear c18b1
                            try clear c18b2
                            try clear c19
                            try clear c19b0
                            try clear c19b1
                            try clear c20
                            try clear c20b0
                            try clear c20b1
                            try clear c20b2
                            try clear c21
                            try clear c21b0
                            try clear c21b1
                            try clear c21b2
                            try clear c22
                            try clear c22b0
                            try clear c22b1
                            try clear c22b2
                            try clear c23
                            try clear c23b0
                            try clear c23b1
                            try clear c24
                            try clear c24b0
                            try clear c24b1
                            try clear c24b2
                            try clear c25
                            try clear c26
                            try clear c28
                            try clear c31
                            try clear c32
                            try clear c32b0
                            try clear c32b1
                            try clear c33
                            try clear c34
                            try clear c34b0
                            try clear c34b1
                            try clear c34b2
                            try clear c46
                            try clear c47
                            try clear c47b0
                            try clear c49
                            try clear c49b0
                            try clear c51
                            try clear c51b0
                            try clear c52
                            try clear c52b0
                            try clear p53
                            try clear q53
                            try clear hx53
                            try clear c54
                            try clear c54b0
                            try clear c55
                            try clear c55b0
                            try clear p56
                            try clear q56
                            try clear hx56
                            try clear c57
                            try clear c58
                            try clear c58b0
                            try clear c58b1
                            try clear c59
                            try clear c59b0
                            try clear c59b1
                            try clear c60
                            try clear c60b0
                            try clear c60b1
                            try clear c61
                            try clear c61b0
                            try clear c61b1
                            try clear c61b2
                            try clear c63
                            try clear c64
                            try clear p64
                            try clear c69
                            try clear c69b0
                            try clear c69b1
                            try clear c70
                            try clear c70b0
                            try clear c70b1
                            try clear c71
                            try clear c72
                            try clear c72b0
                            try clear c72b1
                            try clear c74
                            try clear c74b0
                            try clear c74b1
                            try clear c75
                            try clear c75b0
                            try clear c75b1
                            try clear c77
                            try clear c78
                            try clear c107
                            try clear c107b0
                            try clear c107b1
                            try clear c107b2
                            try clear c108
                            try clear c108b0
                            try clear c108b1
                            try clear c109
                            try clear c109b0
                            try clear c109b1
                            try clear c109b2
                            try clear c110
                            try clear c110b0
                            try clear c110b1
                            try clear c111
                            try clear c111b0
                            try clear c111b1
                            try clear c111b2
                            try clear c112
                            try clear c112b0
                            try clear c112b1
                            try clear c113
                            try clear c113b0
                            try clear c113b1
                            try clear c113b2
                            try clear c114
                            try clear c114b0
                            try clear c114b1
                            try clear c115
                            try clear c115b0
                            try clear c115b1
                            try clear c115b2
                            try clear c116
                            try clear c116b0
                            try clear c116b1
                            try clear c117
                            try clear c118
                            try clear c120
                            try clear c122
                            try clear c122b0
                            try clear c122b1
                            try clear c123
                            try clear c123b0
                            try clear c123b1
                            try clear c124
                            try clear c124b0
                            try clear c124b1
                            try clear c125
                            try clear c125b0
                            try clear c125b1
                            try clear c126
                            try clear c127
                            try clear c134
                            try clear c136
                            try clear c138
                            try clear c139
                            try clear c139b0
                            try clear c144
                            try clear c146
                            try clear c147
                            try clear c147b0
                            try clear c148
                            try clear c148b0
                            try clear c148b1
                            try clear c149
                            try clear c149b0
                            try clear c149b1
                            try clear c150
                            try clear c150b0
                            try clear c150b1
                            try clear c152
                            try clear c155
                            try clear c155b0
                            try clear c155b1
                            try clear c157
                            try clear c159
                            try clear c160
                            try clear c160b0
                            try clear c160b1
                            try clear c161
                            try clear c161b0
                            try clear c163
                            try clear c163b0
                            try clear c165
                            try clear c165b0
                            try clear c165b1
                            try clear c165b2
                            try clear c170
                            try clear c176
                            try clear c176b0
                            try clear p2
                            try clear p5
                            try clear p53
                            try clear p56
                            try clear p6
                            try clear p64
                            try clear q5
                            try clear q53
                            try clear q56
                            obtain ⟨kq,x69_172,rfl,HA,HJ172,HB⟩ := hcut
                            cases kq with
                            | zero => exact absurd HA.out (by simp [laws_FnPatternsDrawn.j14])
                            | succ kj172 =>
                             have H := HA.out; clear HA; simp only [laws_FnPatternsDrawn.j14] at H
                             by_cases c177 : x69_172 > 5
                             ·
                              rw [if_pos c177] at H; have c177b0 : decide (5 < x69_172) = true := decide_eq_true c177; clear c177
                              by_cases c178 : t160 = true
                              ·
                               subst c178; have H1 : (if t159.toList = t144.toList then (if t162 = true then (if t161 = (wrap64 (10 - x69_172)) then (some true) else none) else none) else none) = some r := by rw [if_pos rfl] at H; exact H
                               clear H; have H := H1; clear H1
                               by_cases c179 : t159.toList = t144.toList
                               ·
                                rw [if_pos c179] at H; have c179b0 : (t159.toList == t144.toList) = true := beq_iff_eq.mpr c179; have c179b1 : (t159.toList != t144.toList) = false := bne_eq_false_iff_eq.mpr c179; clear c179
                                by_cases c180 : t162 = true
                                ·
                                 subst c180; have H1 : (if t161 = (wrap64 (10 - x69_172)) then (some true) else none) = some r := by rw [if_pos rfl] at H; exact H
                                 clear H; have H := H1; clear H1
                                 by_cases c181 : t161 = (wrap64 (10 - x69_172))
                                 ·
                                  rw [if_pos c181] at H; have c181b0 : (t161 == (wrap64 (10 - x69_172))) = true := beq_iff_eq.mpr c181; have c181b1 : (t161 != (wrap64 (10 - x69_172))) = false := bne_eq_false_iff_eq.mpr c181; clear c181; obtain rfl := Option.some.inj H; go_wp2
                                  go_ret
                                  exact ⟨by first | rfl | (simp [errW_none,errW_some] <;> rfl) | (simp [*,errW_none,errW_some] <;> rfl),by repeat (first | (with_reducible first | exact HB.out | apply below_alloc | apply pw_below_drewN | apply below_drew1) | exact HB.out)⟩
                                 · rw [if_neg c181] at H; exact absurd H (by simp)
                                ·
                                 replace c180 := Bool.eq_false_iff.mpr c180; subst c180; have H1 : (none : Option Bool) = some r := by rw [if_neg (show ¬ (false = true) by decide)] at H; exact H
                                 exact absurd H1 (by simp)
                               · rw [if_neg c179] at H; exact absurd H (by simp)
                              ·
                               replace c178 := Bool.eq_false_iff.mpr c178; subst c178; have H1 : (none : Option Bool) = some r := by rw [if_neg (show ¬ (false = true) by decide)] at H; exact H
                               exact absurd H1 (by simp)
                             ·
                              rw [if_neg c177] at H; have c177b0 : decide (5 < x69_172) = false := decide_eq_false c177; clear c177
                              by_cases c182 : t160 = true
                              ·
                               subst c182; have H1 : (if t159.toList = t144.toList then (if t162 = true then (if t161 = x69_172 then (some true) else none) else none) else none) = some r := by rw [if_pos rfl] at H; exact H
                               clear H; have H := H1; clear H1
                               by_cases c183 : t159.toList = t144.toList
                               ·
                                rw [if_pos c183] at H; have c183b0 : (t159.toList == t144.toList) = true := beq_iff_eq.mpr c183; have c183b1 : (t159.toList != t144.toList) = false := bne_eq_false_iff_eq.mpr c183; clear c183
                                by_cases c184 : t162 = true
                                ·
                                 subst c184; have H1 : (if t161 = x69_172 then (some true) else none) = some r := by rw [if_pos rfl] at H; exact H
                                 clear H; have H := H1; clear H1
                                 by_cases c185 : t161 = x69_172
                                 ·
                                  rw [if_pos c185] at H; have c185b0 : (t161 == x69_172) = true := beq_iff_eq.mpr c185; have c185b1 : (t161 != x69_172) = false := bne_eq_false_iff_eq.mpr c185; clear c185; obtain rfl := Option.some.inj H; go_wp2
                                  go_ret
                                  exact ⟨by first | rfl | (simp [errW_none,errW_some] <;> rfl) | (simp [*,errW_none,errW_some] <;> rfl),by repeat (first | (with_reducible first | exact HB.out | apply below_alloc | apply pw_below_drewN | apply below_drew1) | exact HB.out)⟩
                                 · rw [if_neg c185] at H; exact absurd H (by simp)
                                ·
                                 replace c184 := Bool.eq_false_iff.mpr c184; subst c184; have H1 : (none : Option Bool) = some r := by rw [if_neg (show ¬ (false = true) by decide)] at H; exact H
                                 exact absurd H1 (by simp)
                               · rw [if_neg c183] at H; exact absurd H (by simp)
                              ·
                               replace c182 := Bool.eq_false_iff.mpr c182; subst c182; have H1 : (none : Option Bool) = some r := by rw [if_neg (show ¬ (false = true) by decide)] at H; exact H
                               exact absurd H1 (by simp)
                          ·
                           replace c170 := Bool.eq_false_iff.mpr c170; subst c170; have H1 : (some true) = some r := by rw [if_neg (show ¬ (false = true) by decide)] at H; exact H
                           clear H; have H := H1; clear H1; obtain rfl := Option.some.inj H; go_wp2
                           go_ret
                           exact ⟨by first | rfl | (simp [errW_none,errW_some] <;> rfl) | (simp [*,errW_none,errW_some] <;> rfl),by repeat (first | (with_reducible first | exact HB.out | apply below_alloc | apply pw_below_drewN | apply below_drew1) | exact HB.out)⟩

end Go.Proofs.YtfhbclfmnliopaaGreatDoor.P

namespace Go.Proofs.YtfhbclfmnliopaaGreatDoor
open Go.RowKit Go.Proofs.YtfhbclfmnliopaaGreatDoor.P Go.Proofs.YtfhbclfmnliopaaGreatDoorW.PrintWords Go.Proofs.YtfhbclfmnliopaaGreatDoorW.PrintLast
/-- The pure statement of FnPatternsDrawn. -/
def PureFnPatternsDrawn : Prop := ∀ (l0 : List Int) (l1 : List Int), (l0.length ≤ 9223372036854775807 ∧ ∀ x ∈ l0, (Lit.int .u8 x).wf = true) → (l1.length ≤ 9223372036854775807 ∧ ∀ x ∈ l1, (Lit.int .u8 x).wf = true) →  ∃ k, laws_FnPatternsDrawn.f k l0 l1 = some true
end Go.Proofs.YtfhbclfmnliopaaGreatDoor

namespace Go.Proofs.YtfhbclfmnliopaaGreatDoor
open Go.RowKit Go.Proofs.YtfhbclfmnliopaaGreatDoorW.PrintWords
/-! Plain words for the pure statements: answers that stand from some number of rounds on. -/
theorem Ev.succ {α : Type} {g : Nat → Option α} {r : α} (h : Ev (fun k => g (k + 1)) r) : Ev g r := Ev.step (fun _ => rfl) h
theorem Ev.const {α : Type} {a : Option α} {r : α} (h : a = some r) : Ev (fun _ => a) r := ⟨0, fun _ _ => h⟩
theorem Ev.pos {α : Type} {c : Prop} [Decidable c] {g f : Nat → Option α} {r : α} (hc : c) (h : Ev g r) : Ev (fun k => if c then g k else f k) r := by simp only [if_pos hc]; exact h
theorem Ev.neg {α : Type} {c : Prop} [Decidable c] {g f : Nat → Option α} {r : α} (hc : ¬ c) (h : Ev f r) : Ev (fun k => if c then g k else f k) r := by simp only [if_neg hc]; exact h
theorem Ev.yes {α : Type} {c : Prop} [Decidable c] {g f : Nat → Option α} {r : α} (h : Ev g r) (hc : c := by first | omega | rfl | trivial | decide | simp | (simp; omega)) : Ev (fun k => if c then g k else f k) r := Ev.pos hc h
theorem Ev.no {α : Type} {c : Prop} [Decidable c] {g f : Nat → Option α} {r : α} (h : Ev f r) (hc : ¬ c := by first | omega | decide | simp | (simp; omega)) : Ev (fun k => if c then g k else f k) r := Ev.neg hc h
theorem Ev.bindc {α β : Type} {a : Option α} {x : α} {f : Nat → α → Option β} {r : β} (h : a = some x) (k : Ev (fun n => f n x) r) : Ev (fun n => a.bind (f n)) r := by subst h; exact k
theorem wrap_id {n : Int} (h1 : -9223372036854775808 ≤ n) (h2 : n ≤ 9223372036854775807) : wrap64 n = n := IntWalk.wrap64_in n ⟨h1, h2⟩
theorem wf_i64 {n : Int} (h : (Lit.int .i64 n).wf = true) : -9223372036854775808 ≤ n ∧ n ≤ 9223372036854775807 := by
  have e1 : IntKind.i64.min = -9223372036854775808 := rfl
  have e2 : IntKind.i64.max = 9223372036854775807 := rfl
  simp only [Lit.wf, e1, e2, Bool.and_eq_true, decide_eq_true_eq] at h
  exact h
theorem rd_nat (l : List Int) (j : Nat) (h : j < l.length) : rd l (j : Int) = l[j] := by unfold rd; simp [List.getD, h]
end Go.Proofs.YtfhbclfmnliopaaGreatDoor

namespace Go.Proofs.YtfhbclfmnliopaaGreatDoor
open Go.RowKit Go.Proofs.YtfhbclfmnliopaaGreatDoorW.PrintWords
set_option linter.unusedSimpArgs false
set_option linter.unusedVariables false
/-! Strings as lists of bytes. -/
/-- A string's bytes. -/
def bl (s : ByteArray) : List UInt8 := s.data.toList
theorem bl_len (s : ByteArray) : s.size = (bl s).length := rfl
theorem bl_inj {s t : ByteArray} (h : bl s = bl t) : s = t := ByteArray.ext (Array.toList_inj.1 h)
theorem bl_toList (s : ByteArray) : s.toList = bl s := Go.ByteArray.toList_eq s
theorem bl_mk (a : Array UInt8) : bl ⟨a⟩ = a.toList := rfl
theorem mk_bl (s : ByteArray) : (⟨(bl s).toArray⟩ : ByteArray) = s := bl_inj (by simp [bl])
theorem bl_extract (s : ByteArray) (i j : Nat) : bl (s.extract i j) = ((bl s).drop i).take (j - i) := by simp [bl, ByteArray.data_extract]
theorem bl_append (s t : ByteArray) : bl (s ++ t) = bl s ++ bl t := by simp [bl, ByteArray.data_append]
theorem bl_nums (l : List Int) : bl (strOfNums l) = l.map fun n => UInt8.ofNat n.toNat := rfl
theorem bl_empty : bl (⟨#[]⟩ : ByteArray) = [] := rfl
theorem bt_nat (s : ByteArray) (i : Nat) (h : i < (bl s).length) : bt s (i : Int) = ((bl s)[i].toNat : Int) := by
  unfold bt
  have h' : ((i : Int)).toNat < s.size := by rw [Int.toNat_natCast]; exact h
  rw [dif_pos h']; rfl
theorem of_toNat (c : UInt8) : UInt8.ofNat ((c.toNat : Int)).toNat = c := by rw [Int.toNat_natCast]; simp
theorem bt_of (s : ByteArray) (i : Nat) (h : i < (bl s).length) : UInt8.ofNat (bt s (i : Int)).toNat = (bl s)[i] := by rw [bt_nat s i h]; exact of_toNat _
theorem byte_eq (c d : UInt8) : ((c.toNat : Int) = (d.toNat : Int)) ↔ c = d := by
  constructor
  · intro h; exact UInt8.toNat_inj.1 (by exact_mod_cast h)
  · intro h; rw [h]
theorem byte_lt (c d : UInt8) : ((c.toNat : Int) < (d.toNat : Int)) ↔ c < d := by rw [UInt8.lt_iff_toNat_lt]; omega
theorem byte_le (c d : UInt8) : ((c.toNat : Int) ≤ (d.toNat : Int)) ↔ c ≤ d := by rw [UInt8.le_iff_toNat_le]; omega
theorem dropWhile_nil {α : Type} (p : α → Bool) : ∀ l : List α, l.dropWhile p = [] ↔ l.all p = true
  | [] => by simp
  | x :: xs => by
    by_cases h : p x = true
    · simp [List.dropWhile_cons, h, dropWhile_nil p xs]
    · simp [List.dropWhile_cons, h]
theorem dropWhile_keeps {α : Type} (p : α → Bool) : ∀ l : List α, (l.dropWhile p).all p = l.all p
  | [] => rfl
  | x :: xs => by
    by_cases h : p x = true
    · simp only [List.dropWhile_cons, h, if_true, List.all_cons, Bool.true_and]; exact dropWhile_keeps p xs
    · simp [List.dropWhile_cons, h]
theorem trimS_nil (l cs : List UInt8) : Lib.trimS l cs = [] ↔ l.all (cs.contains ·) = true := by
  unfold Lib.trimS Lib.trimLeftS Lib.trimRightS
  rw [dropWhile_nil, List.all_reverse, dropWhile_keeps, List.all_reverse]
theorem indexByte_neg (l : List UInt8) (c : UInt8) : Lib.indexByte l c < 0 ↔ ¬ c ∈ l := by
  induction l with
  | nil => simp [Lib.indexByte]
  | cons b l ih =>
    have hge := Lib.indexByte_ge l c
    unfold Lib.indexByte
    by_cases h : b = c
    · subst h; simp
    · have h1 : (b == c) = false := by simpa using h
      rw [h1]
      have h2 : ¬ c = b := fun e => h e.symm
      simp only [Bool.false_eq_true, if_false, List.mem_cons, h2, false_or]
      by_cases e : Lib.indexByte l c = -1
      · simp only [e, beq_self_eq_true, if_true]
        have := ih.1 (by omega)
        simp [this]
      · have e' : (Lib.indexByte l c == -1) = false := by simpa using e
        rw [e']
        simp only [Bool.false_eq_true, if_false]
        have hp : ¬ Lib.indexByte l c < 0 := by omega
        have := mt ih.2 hp
        constructor
        · intro h3; omega
        · intro h3; exact absurd h3 this
/-- The letters. -/
def isLow (c : UInt8) : Bool := decide (97 ≤ c.toNat) && decide (c.toNat ≤ 122)
theorem u8_all (P : UInt8 → Prop) [DecidablePred P] (h : ∀ n, n < 256 → P (UInt8.ofNat n)) (c : UInt8) : P c := by
  have := h c.toNat c.toNat_lt
  rwa [show UInt8.ofNat c.toNat = c from by simp] at this
theorem low_contains (c : UInt8) : ([97, 98, 99, 100, 101, 102, 103, 104, 105, 106, 107, 108, 109, 110, 111, 112, 113, 114, 115, 116, 117, 118, 119, 120, 121, 122] : List UInt8).contains c = isLow c := by
  refine u8_all (fun c => _ = isLow c) ?_ c
  decide +kernel
theorem dig_contains (c : UInt8) : ([48, 49, 50, 51, 52, 53, 54, 55, 56, 57] : List UInt8).contains c = (decide (48 ≤ c.toNat) && decide (c.toNat ≤ 57)) := by
  refine u8_all (fun c => _ = (decide (48 ≤ c.toNat) && decide (c.toNat ≤ 57))) ?_ c
  decide +kernel
end Go.Proofs.YtfhbclfmnliopaaGreatDoor

namespace Go.Proofs.YtfhbclfmnliopaaGreatDoor
open Go.RowKit Go.Proofs.YtfhbclfmnliopaaGreatDoor.P Go.Proofs.YtfhbclfmnliopaaGreatDoorW.PrintWords
set_option linter.unusedSimpArgs false
set_option linter.unusedVariables false
/-! With which points a text can go on. -/
theorem getD_at (l : List UInt8) (i : Nat) (h : i < l.length) : l.getD i 0 = l[i] := by rw [List.getD_eq_getElem?_getD, List.getElem?_eq_getElem h]; rfl
/-- Has a text a sign, told as a number? -/
def hasI (l : List UInt8) (x : Int) : Bool := l.any fun b => ((b.toNat : Int) == x)
theorem hasI_mem (l : List UInt8) (c : UInt8) : hasI l (c.toNat : Int) = true ↔ c ∈ l := by
  unfold hasI
  rw [List.any_eq_true]
  constructor
  · rintro ⟨b, hb, h⟩
    have : b = c := UInt8.toNat_inj.1 (by have : (b.toNat : Int) = (c.toNat : Int) := by simpa using h
                                          omega)
    rwa [this] at hb
  · intro h
    exact ⟨c, h, by simp⟩
theorem piHas_l0 (s : ByteArray) (hs : s.size ≤ 1048576) (x : Int) : ∀ (d i : Nat), i + d = (bl s).length → Ev (fun k => spec_piHas.l0 k s x (i : Int)) (hasI ((bl s).drop i) x)
  | 0, i, hi => by
    have es : s.size = (bl s).length := rfl
    rw [List.drop_of_length_le (by omega)]
    apply Ev.succ; simp only [spec_piHas.l0]
    exact Ev.neg (by omega) (Ev.now _)
  | d + 1, i, hi => by
    have es : s.size = (bl s).length := rfl
    have hlt : i < (bl s).length := by omega
    have ih := piHas_l0 s hs x d (i + 1) (by omega)
    have e1 : wrap64 ((i : Int) + 1) = ((i + 1 : Nat) : Int) := by rw [wrap_id (by omega) (by omega)]; omega
    rw [List.drop_eq_getElem_cons hlt]
    unfold hasI at ih ⊢
    rw [List.any_cons]
    apply Ev.succ; simp only [spec_piHas.l0, e1]
    rw [bt_nat s i hlt]
    refine Ev.pos (by omega) (Ev.pos (by omega) ?_)
    by_cases c : ((bl s)[i].toNat : Int) = x
    · refine Ev.pos c (Ev.const ?_)
      rw [beq_iff_eq.2 c]; rfl
    · refine Ev.neg c ?_
      rw [beq_eq_false_iff_ne.2 c, Bool.false_or]
      exact ih
theorem piHas_ev (s : ByteArray) (hs : s.size ≤ 1048576) (x : Int) : Ev (fun k => spec_piHas.f k s x) (hasI (bl s) x) := by
  have := piHas_l0 s hs x (bl s).length 0 (by omega)
  rw [List.drop_zero] at this
  exact this
/-! Which point lies between. -/
/-- The reference's answer: a point, or 0. -/
def btw (a c : Int) : Int := (spec_piBetween.f a c).getD 0
def okMid (A C : Int) : Bool :=
  match impl_spotOf.f A, impl_spotOf.f C, spec_piBetween.f A C with
  | some p, some q, some b =>
    if Int.tmod (wrap64 (p.1 + q.1)) 2 = 0 ∧ Int.tmod (wrap64 (p.2 + q.2)) 2 = 0 then
      (match impl_digitAt.f 5 (wrap64 (Int.tdiv (wrap64 (p.1 + q.1)) 2)) (wrap64 (Int.tdiv (wrap64 (p.2 + q.2)) 2)) with
      | some t => decide (0 ≤ t) && decide (t < 10) && (bt (⟨#[48, 49, 50, 51, 52, 53, 54, 55, 56, 57]⟩ : ByteArray) t == b) && (decide (49 ≤ b) && decide (b ≤ 57))
      | none => false)
    else b == 0
  | _, _, _ => false
theorem okMid_all : ∀ a c : Fin 9, okMid (49 + (a.val : Int)) (49 + (c.val : Int)) = true := by decide +kernel
/-- May a text go on with a point, as far as what lies between goes? -/
def goB (l : List UInt8) (a c : Int) : Bool := (btw a c == 0) || hasI l (btw a c)
theorem idx_has (s : ByteArray) (b : Int) (h1 : 49 ≤ b) (h2 : b ≤ 57) : strings_IndexByte.f s b = some (Lib.indexByte (bl s) b.toNat.toUInt8) ∧ (Lib.indexByte (bl s) b.toNat.toUInt8 ≥ 0 ↔ hasI (bl s) b = true) := by
  refine ⟨rfl, ?_⟩
  have hb : ((b.toNat.toUInt8).toNat : Int) = b := by
    have : b.toNat < 256 := by omega
    simp; omega
  have := indexByte_neg (bl s) b.toNat.toUInt8
  have h3 := hasI_mem (bl s) b.toNat.toUInt8
  rw [hb] at h3
  rw [h3]
  constructor
  · intro h
    rcases Classical.em (b.toNat.toUInt8 ∈ bl s) with q | q
    · exact q
    · have := this.2 q; omega
  · intro h
    by_cases q : Lib.indexByte (bl s) b.toNat.toUInt8 < 0
    · exact absurd h (this.1 q)
    · omega
theorem canFollow_ev (s : ByteArray) (a c : Int) (hs : s.size ≤ 1048576) (hp : 0 < s.size) (ha : bt s ((s.size - 1 : Nat) : Int) = a) (a1 : 49 ≤ a) (a2 : a ≤ 57) (c1 : 49 ≤ c) (c2 : c ≤ 57) : Ev (fun k => impl_canFollow.f k s c) (goB (bl s) a c) := by
  have hk := okMid_all ⟨(a - 49).toNat, by omega⟩ ⟨(c - 49).toNat, by omega⟩
  simp only at hk
  rw [show (49 + ((a - 49).toNat : Int)) = a by omega, show (49 + ((c - 49).toNat : Int)) = c by omega] at hk
  unfold okMid at hk
  have e1 : wrap64 ((s.size : Int) - 1) = ((s.size - 1 : Nat) : Int) := by rw [wrap_id (by omega) (by omega)]; omega
  have hne : ¬ s.toList = [] := by
    rw [bl_toList]
    intro e
    have := congrArg List.length e
    rw [← bl_len] at this
    have h0 : s.size = 0 := this
    omega
  unfold impl_canFollow.f goB btw
  rw [e1, ha]
  refine Ev.neg hne (Ev.pos (by omega) (Ev.pos (by omega) ?_))
  cases hp1 : impl_spotOf.f a with
  | none => rw [hp1] at hk; cases hk
  | some p =>
    cases hq1 : impl_spotOf.f c with
    | none => rw [hp1, hq1] at hk; cases hk
    | some q =>
      cases hb1 : spec_piBetween.f a c with
      | none => rw [hp1, hq1, hb1] at hk; cases hk
      | some b =>
        rw [hp1, hq1, hb1] at hk
        simp only [Option.getD_some] at hk ⊢
        refine Ev.bindc rfl (Ev.bindc rfl ?_)
        by_cases e : Int.tmod (wrap64 (p.1 + q.1)) 2 = 0 ∧ Int.tmod (wrap64 (p.2 + q.2)) 2 = 0
        · rw [if_pos e] at hk
          refine Ev.pos e.1 ?_
          cases ht : impl_digitAt.f 5 (wrap64 (Int.tdiv (wrap64 (p.1 + q.1)) 2)) (wrap64 (Int.tdiv (wrap64 (p.2 + q.2)) 2)) with
          | none => rw [ht] at hk; cases hk
          | some t =>
            rw [ht] at hk
            simp only [Bool.and_eq_true, decide_eq_true_eq, beq_iff_eq] at hk
            obtain ⟨⟨⟨t1, t2⟩, t3⟩, t4, t5⟩ := hk
            obtain ⟨i1, i2⟩ := idx_has s b t4 t5
            rw [show (b == 0) = false from beq_eq_false_iff_ne.2 (by omega), Bool.false_or]
            rw [show (Int.tmod (wrap64 (p.2 + q.2)) 2 != 0) = false by rw [e.2]; rfl]
            apply Ev.succ; simp only [impl_canFollow.j0]
            refine Ev.neg (by decide) (Ev.bind (Ev.of (impl_digitAt.mono _ _) ht) (Ev.pos t1 (Ev.pos t2 ?_)))
            rw [t3, i1]
            refine Ev.bindc rfl (Ev.const ?_)
            congr 1
            rw [Bool.eq_iff_iff, decide_eq_true_iff]
            exact i2
        · rw [if_neg e] at hk
          rw [hk, Bool.true_or]
          by_cases e1 : Int.tmod (wrap64 (p.1 + q.1)) 2 = 0
          · refine Ev.pos e1 ?_
            rw [show (Int.tmod (wrap64 (p.2 + q.2)) 2 != 0) = true from bne_iff_ne.2 (fun h => e ⟨e1, h⟩)]
            apply Ev.succ; simp only [impl_canFollow.j0]
            exact Ev.pos (by trivial) (Ev.now _)
          · refine Ev.neg e1 ?_
            apply Ev.succ; simp only [impl_canFollow.j0]
            exact Ev.pos (by trivial) (Ev.now _)
theorem piBetween_some (a c : Int) : ∃ b, spec_piBetween.f a c = some b := by
  unfold spec_piBetween.f
  split
  · split <;> exact ⟨_, rfl⟩
  · exact ⟨_, rfl⟩
theorem piGoes_ev (s : ByteArray) (a c : Int) (hs : s.size ≤ 1048576) (hp : 0 < s.size) (ha : bt s ((s.size - 1 : Nat) : Int) = a) : Ev (fun k => spec_piGoes.f k s c) (!hasI (bl s) c && goB (bl s) a c) := by
  have e1 : wrap64 ((s.size : Int) - 1) = ((s.size - 1 : Nat) : Int) := by rw [wrap_id (by omega) (by omega)]; omega
  obtain ⟨b, hb⟩ := piBetween_some a c
  unfold spec_piGoes.f goB btw
  rw [e1, ha, hb]
  refine Ev.bind (piHas_ev s hs c) ?_
  cases hasI (bl s) c with
  | true => exact Ev.pos rfl (Ev.now _)
  | false =>
    refine Ev.neg (by decide) (Ev.pos (by omega) (Ev.pos (by omega) (Ev.bindc rfl ?_)))
    rw [Option.getD_some]
    by_cases e : b = 0
    · refine Ev.pos e (Ev.const ?_)
      rw [e]; rfl
    · refine Ev.neg e (Ev.bind (piHas_ev s hs b) (Ev.const ?_))
      rw [beq_eq_false_iff_ne.2 e]; rfl
end Go.Proofs.YtfhbclfmnliopaaGreatDoor

namespace Go.Proofs.YtfhbclfmnliopaaGreatDoor
open Go.RowKit Go.Proofs.YtfhbclfmnliopaaGreatDoor.P Go.Proofs.YtfhbclfmnliopaaGreatDoorW.PrintWords
set_option linter.unusedSimpArgs false
set_option linter.unusedVariables false
/-! The points with which a pattern can go on. -/
def pts : List Int := [49, 50, 51, 52, 53, 54, 55, 56, 57]
/-- The last sign of a text. -/
def lastI (l : List UInt8) : Int := ((l.getD (l.length - 1) 0).toNat : Int)
def goes (l : List UInt8) (c : Int) : Bool := !hasI l c && goB l (lastI l) c
def nxt (l : List UInt8) : List Int := pts.filter (goes l)
theorem pts_at (i : Nat) (h : i < 9) : rd pts (i : Int) = 49 + i ∧ pts.drop i = (49 + (i : Int)) :: pts.drop (i + 1) := by
  have : ∀ e : Fin 9, rd pts (e.val : Int) = 49 + e.val ∧ pts.drop e.val = (49 + (e.val : Int)) :: pts.drop (e.val + 1) := by decide
  exact this ⟨i, h⟩
theorem last_bt (s : ByteArray) (hp : 0 < s.size) : bt s ((s.size - 1 : Nat) : Int) = lastI (bl s) := by
  have es : s.size = (bl s).length := rfl
  unfold lastI
  rw [bt_nat s (s.size - 1) (by omega), getD_at _ _ (by omega)]
  rfl
theorem enc_pt (i : Nat) (h : i < 9) : bl (Utf8.encode (wrap32 (49 + (i : Int)))) = [UInt8.ofNat (49 + (i : Int)).toNat] := by
  have : ∀ e : Fin 9, bl (Utf8.encode (wrap32 (49 + (e.val : Int)))) = [UInt8.ofNat (49 + (e.val : Int)).toNat] := by decide +kernel
  exact this ⟨i, h⟩
section
variable (s : ByteArray) (hs : s.size ≤ 1048576) (hp : 0 < s.size) (hl : 49 ≤ lastI (bl s) ∧ lastI (bl s) ≤ 57)
include hs hp hl
theorem next_l0 : ∀ (d i : Nat) (acc : List Int), i + d = 9 → acc.length ≤ i → Ev (fun k => impl_nextPoints.l0 k s acc pts (pts.length : Int) (i : Int)) (strOfNums (acc ++ (pts.drop i).filter (goes (bl s))))
  | 0, i, acc, hi, ha => by
    obtain rfl : i = 9 := by omega
    apply Ev.succ; simp only [impl_nextPoints.l0]
    refine Ev.neg (by decide) (Ev.const ?_)
    rw [show pts.drop 9 = [] from rfl]; simp
  | d + 1, i, acc, hi, ha => by
    obtain ⟨q1, q2⟩ := pts_at i (by omega)
    have hlp : (pts.length : Int) = 9 := rfl
    have e1 : wrap64 ((i : Int) + 1) = ((i + 1 : Nat) : Int) := by rw [wrap_id (by omega) (by omega)]; omega
    obtain ⟨i1, i2⟩ := idx_has s (49 + (i : Int)) (by omega) (by omega)
    have cf := canFollow_ev s _ (49 + (i : Int)) hs hp (last_bt s hp) hl.1 hl.2 (by omega) (by omega)
    have ih := fun acc' h => next_l0 d (i + 1) acc' (by omega) h
    rw [hlp] at ih ⊢
    rw [q2, List.filter_cons]
    unfold goes at ih ⊢
    apply Ev.succ; simp only [impl_nextPoints.l0, e1, hlp, q1, i1]
    refine Ev.pos (by omega) (Ev.pos (by omega) (Ev.pos (by omega) (Ev.bindc rfl ?_)))
    by_cases c : Lib.indexByte (bl s) (49 + (i : Int)).toNat.toUInt8 < 0
    · have hh : hasI (bl s) (49 + (i : Int)) = false := by
        cases hh : hasI (bl s) (49 + (i : Int)) with
        | false => rfl
        | true => have := i2.2 hh; omega
      refine Ev.pos c (Ev.bind cf ?_)
      rw [hh, Bool.not_false, Bool.true_and]
      cases goB (bl s) (lastI (bl s)) (49 + (i : Int)) with
      | true =>
        refine Ev.pos rfl (Ev.pos (by omega) ?_)
        rw [if_pos rfl]
        have := ih (acc ++ [49 + (i : Int)]) (by simp; omega)
        rwa [List.append_assoc, List.singleton_append] at this
      | false =>
        rw [if_neg (by decide)]
        exact Ev.neg (by decide) (ih acc (by omega))
    · have hh : hasI (bl s) (49 + (i : Int)) = true := i2.1 (by omega)
      rw [hh, Bool.not_true, Bool.false_and, if_neg (by decide)]
      exact Ev.neg c (ih acc (by omega))
theorem nextPoints_ev : Ev (fun k => impl_nextPoints.f k s) (strOfNums (nxt (bl s))) := by
  unfold impl_nextPoints.f
  exact Ev.bindc rfl (next_l0 s hs hp hl 9 0 [] (by omega) (by simp))
end
end Go.Proofs.YtfhbclfmnliopaaGreatDoor

namespace Go.Proofs.YtfhbclfmnliopaaGreatDoor
open Go.RowKit Go.Proofs.YtfhbclfmnliopaaGreatDoor.P Go.Proofs.YtfhbclfmnliopaaGreatDoorW.PrintWords
set_option linter.unusedSimpArgs false
set_option linter.unusedVariables false
/-! In how many ways a pattern goes on. -/
def toB (c : Int) : UInt8 := UInt8.ofNat c.toNat
def cnt : Nat → List UInt8 → Nat
  | 0, _ => 1
  | m + 1, l => ((nxt l).map fun c => cnt m (l ++ [toB c])).sum
def isP (c : Int) : Prop := 49 ≤ c ∧ c ≤ 57
theorem pts_isP : ∀ c ∈ pts, isP c := by unfold pts isP; intro c hc; simp at hc; omega
theorem nxt_isP (l : List UInt8) : ∀ c ∈ nxt l, isP c := fun c hc => pts_isP c (List.mem_filter.1 hc).1
theorem toB_nat {c : Int} (h : isP c) : ((toB c).toNat : Int) = c := by
  obtain ⟨h1, h2⟩ := h
  unfold toB
  simp; omega
theorem bl_ext (s : ByteArray) (c : UInt8) : bl (s ++ ⟨#[c]⟩) = bl s ++ [c] := by rw [bl_append]; rfl
theorem last_ext (l : List UInt8) (c : UInt8) : lastI (l ++ [c]) = (c.toNat : Int) := by
  unfold lastI
  rw [List.getD_eq_getElem?_getD]
  simp
theorem ext_size (s : ByteArray) (c : UInt8) : (s ++ ⟨#[c]⟩ : ByteArray).size = s.size + 1 := by rw [ByteArray.size_append]; rfl
/-- A text to which points may be put. -/
def okS (s : ByteArray) : Prop := 0 < s.size ∧ 49 ≤ lastI (bl s) ∧ lastI (bl s) ≤ 57
theorem okS_ext (s : ByteArray) {c : Int} (h : isP c) : okS (s ++ ⟨#[toB c]⟩) := by
  refine ⟨by rw [ext_size]; omega, ?_⟩
  rw [bl_ext, last_ext, toB_nat h]
  exact h
theorem enc_toB (i : Nat) (h : i < 9) (s : ByteArray) : s ++ Utf8.encode (wrap32 (49 + (i : Int))) = s ++ ⟨#[toB (49 + (i : Int))]⟩ := bl_inj (by rw [bl_append, enc_pt i h, bl_ext]; rfl)
theorem sum_le (f : Int → Nat) (B : Nat) : ∀ l : List Int, (∀ c ∈ l, f c ≤ B) → (l.map f).sum ≤ l.length * B
  | [], _ => by simp
  | c :: l, h => by
    have h1 := h c List.mem_cons_self
    have h2 := sum_le f B l (fun x hx => h x (List.mem_cons_of_mem _ hx))
    rw [List.map_cons, List.sum_cons, List.length_cons, Nat.succ_mul]
    omega
theorem cnt_le : ∀ (m : Nat) (l : List UInt8), cnt m l ≤ 9 ^ m
  | 0, _ => by unfold cnt; simp
  | m + 1, l => by
    unfold cnt
    have h := sum_le (fun c => cnt m (l ++ [toB c])) (9 ^ m) (nxt l) (fun c _ => cnt_le m _)
    have hl : (nxt l).length ≤ 9 := List.length_filter_le _ _
    have hm : (nxt l).length * 9 ^ m ≤ 9 * 9 ^ m := Nat.mul_le_mul_right _ hl
    rw [Nat.pow_succ]
    omega
theorem nums_toB (l : List Int) : (strOfNums l).data.toList = l.map toB := bl_nums l
theorem asc_toB (l : List Int) (h : ∀ c ∈ l, isP c) : ((strOfNums l).data.toList.all fun c => decide (c.toNat < 128)) = true := by
  rw [nums_toB, List.all_eq_true]
  intro b hb
  obtain ⟨c, hc, rfl⟩ := List.mem_map.1 hb
  have h1 := toB_nat (h c hc)
  have h2 := h c hc
  unfold isP at h2
  simp only [decide_eq_true_eq]; omega
theorem many_loop (s : ByteArray) (long : Int) (m : Nat) (ih : ∀ (c : Int) (σ : Nat), isP c → σ + cnt m (bl s ++ [toB c]) ≤ 1000000000000 → Ev (fun k => drawnF (fun (n : Int) (_ : ByteArray) => wrap64 (n + 1)) false k (s ++ ⟨#[toB c]⟩) long (σ : Int)) (false, ((σ + cnt m (bl s ++ [toB c]) : Nat) : Int))) : ∀ (cs : List Int) (σ : Nat), (∀ c ∈ cs, isP c) → σ + (cs.map fun c => cnt m (bl s ++ [toB c])).sum ≤ 1000000000000 →
    Ev (fun k => loopD (fun p s' => drawnF (fun (n : Int) (_ : ByteArray) => wrap64 (n + 1)) false k p long s') s (cs.map toB) (σ : Int)) (false, ((σ + (cs.map fun c => cnt m (bl s ++ [toB c])).sum : Nat) : Int))
  | [], σ, hc, hb => Ev.const (by simp [loopD])
  | c :: cs, σ, hc, hb => by
    simp only [List.map_cons, List.sum_cons] at hb ⊢
    have go := many_loop s long m ih cs (σ + cnt m (bl s ++ [toB c])) (fun x hx => hc x (List.mem_cons_of_mem _ hx)) (by omega)
    unfold loopD
    refine Ev.bind (ih c σ (hc c List.mem_cons_self) (by omega)) ?_
    refine Ev.neg (by simp) ?_
    rw [← Nat.add_assoc]
    exact go
theorem many_ev : ∀ (m : Nat) (s : ByteArray) (long : Int) (σ : Nat), okS s → (s.size : Int) + m = long → long ≤ 900 → σ + cnt m (bl s) ≤ 1000000000000 → Ev (fun k => drawnF (fun (n : Int) (_ : ByteArray) => wrap64 (n + 1)) false k s long (σ : Int)) (false, ((σ + cnt m (bl s) : Nat) : Int))
  | 0, s, long, σ, hs, hl, h9, hb => by
    unfold cnt at hb ⊢
    apply Ev.succ; simp only [drawnF]
    refine Ev.pos (by omega) (Ev.const ?_)
    rw [wrap_id (by omega) (by omega)]
    rfl
  | m + 1, s, long, σ, hs, hl, h9, hb => by
    have hp := nextPoints_ev s (by omega) hs.1 hs.2
    have go := many_loop s long m (fun c σ' hc hb' => by
      have := many_ev m (s ++ ⟨#[toB c]⟩) long σ' (okS_ext s hc) (by rw [ext_size]; omega) h9 (by rw [bl_ext]; exact hb')
      rwa [bl_ext] at this) (nxt (bl s)) σ (nxt_isP _) hb
    apply Ev.succ; simp only [drawnF]
    refine Ev.neg (by omega) (Ev.pos (by omega) (Ev.bind hp (Ev.pos (asc_toB _ (nxt_isP _)) ?_)))
    rw [nums_toB]
    exact go
theorem countDrawn_ev (s : ByteArray) (m : Nat) (long : Int) (hs : okS s) (hl : (s.size : Int) + m = long) (h9 : long ≤ 900) (hb : cnt m (bl s) ≤ 1000000000000) : Ev (fun k => impl_countDrawn.f k s long) ((cnt m (bl s) : Nat) : Int) := by
  have h := many_ev m s long 0 hs hl h9 (by omega)
  obtain ⟨K, hK⟩ := h
  refine ⟨K, fun k hk => ?_⟩
  show impl_countDrawn.f k s long = _
  unfold impl_countDrawn.f
  have := hK k hk
  simp only [Nat.zero_add] at this
  rw [show ((0 : Nat) : Int) = 0 from rfl] at this
  rw [this]
  rfl
/-! The reference's count. -/
theorem piCount_l0 (s : ByteArray) (hs : okS s) (h9 : s.size ≤ 900) (m : Nat) (hm : m ≤ 900) (ih : ∀ c : Int, isP c → cnt m (bl s ++ [toB c]) ≤ 1000000000000 → Ev (fun k => spec_piCount.f k (s ++ ⟨#[toB c]⟩) (m : Int)) ((cnt m (bl s ++ [toB c]) : Nat) : Int)) : ∀ (d i : Nat) (acc : Nat), i + d = 9 → acc + (((pts.drop i).filter (goes (bl s))).map fun c => cnt m (bl s ++ [toB c])).sum ≤ 1000000000000 →
    Ev (fun k => spec_piCount.l0 k s ((m + 1 : Nat) : Int) (acc : Int) (49 + (i : Int))) (((acc + (((pts.drop i).filter (goes (bl s))).map fun c => cnt m (bl s ++ [toB c])).sum : Nat)) : Int)
  | 0, i, acc, hi, hb => by
    obtain rfl : i = 9 := by omega
    apply Ev.succ; simp only [spec_piCount.l0]
    refine Ev.neg (by decide) (Ev.const ?_)
    rw [show pts.drop 9 = [] from rfl]; simp
  | d + 1, i, acc, hi, hb => by
    obtain ⟨q1, q2⟩ := pts_at i (by omega)
    have e1 : (49 + (i : Int) + 1) % 256 = 49 + ((i + 1 : Nat) : Int) := by omega
    have e2 : wrap64 (((m + 1 : Nat) : Int) - 1) = (m : Int) := by rw [wrap_id (by omega) (by omega)]; omega
    have pg := piGoes_ev s _ (49 + (i : Int)) (by omega) hs.1 (last_bt s hs.1)
    rw [q2, List.filter_cons] at hb ⊢
    apply Ev.succ; simp only [spec_piCount.l0, e1, e2]
    refine Ev.pos (by omega) (Ev.bind pg ?_)
    show Ev (fun k => if goes (bl s) (49 + (i : Int)) = true then _ else _) _
    cases hg : goes (bl s) (49 + (i : Int)) with
    | true =>
      rw [hg, if_pos rfl, List.map_cons, List.sum_cons] at hb
      rw [if_pos rfl, List.map_cons, List.sum_cons]
      have hz : s.size + (Utf8.encode (wrap32 (49 + (i : Int)))).size ≤ 9223372036854775807 := by
        rw [bl_len (Utf8.encode _), enc_pt i (by omega), List.length_singleton]; omega
      have go := piCount_l0 s hs h9 m hm ih d (i + 1) (acc + cnt m (bl s ++ [toB (49 + (i : Int))])) (by omega) (by omega)
      refine Ev.pos rfl (Ev.pos hz ?_)
      rw [enc_toB i (by omega)]
      refine Ev.bind (ih (49 + (i : Int)) ⟨by omega, by omega⟩ (by omega)) ?_
      rw [show wrap64 ((acc : Int) + ((cnt m (bl s ++ [toB (49 + (i : Int))]) : Nat) : Int)) = ((acc + cnt m (bl s ++ [toB (49 + (i : Int))]) : Nat) : Int) by
        generalize cnt m (bl s ++ [toB (49 + (i : Int))]) = z at hb
        rw [wrap_id (by omega) (by omega)]; omega, ← Nat.add_assoc]
      exact go
    | false =>
      rw [hg, if_neg (by decide)] at hb
      rw [if_neg (by decide)]
      exact Ev.neg (by decide) (piCount_l0 s hs h9 m hm ih d (i + 1) acc (by omega) hb)
theorem piCount_ev : ∀ (m : Nat) (s : ByteArray), okS s → s.size + m ≤ 900 → cnt m (bl s) ≤ 1000000000000 → Ev (fun k => spec_piCount.f k s (m : Int)) ((cnt m (bl s) : Nat) : Int)
  | 0, s, hs, h9, hb => by
    unfold cnt
    apply Ev.succ; simp only [spec_piCount.f]
    exact Ev.pos (by omega) (Ev.now _)
  | m + 1, s, hs, h9, hb => by
    have go := piCount_l0 s hs (by omega) m (by omega) (fun c hc hb' => by
      have := piCount_ev m (s ++ ⟨#[toB c]⟩) (okS_ext s hc) (by rw [ext_size]; omega) (by rw [bl_ext]; exact hb')
      rwa [bl_ext] at this) 9 0 0 (by omega) (by rw [Nat.zero_add]; exact hb)
    apply Ev.succ; simp only [spec_piCount.f]
    refine Ev.neg (by omega) ?_
    rw [Nat.zero_add] at go
    exact go
theorem cnt_fit (m : Nat) (hm : m ≤ 9) (l : List UInt8) : cnt m l ≤ 1000000000000 := by
  have h1 := cnt_le m l
  have h2 : 9 ^ m ≤ 9 ^ 9 := Nat.pow_le_pow_right (by omega) hm
  have : 9 ^ 9 = 387420489 := rfl
  omega
end Go.Proofs.YtfhbclfmnliopaaGreatDoor

namespace Go.Proofs.YtfhbclfmnliopaaGreatDoor
open Go.RowKit Go.Proofs.YtfhbclfmnliopaaGreatDoor.P Go.Proofs.YtfhbclfmnliopaaGreatDoorW.PrintWords
set_option linter.unusedSimpArgs false
set_option linter.unusedVariables false
/-! The first pattern that goes on so far. -/
def fst1 : Nat → ByteArray → Option ByteArray
  | 0, s => some s
  | m + 1, s => (nxt (bl s)).findSome? fun c => fst1 m (s ++ ⟨#[toB c]⟩)
/-- What the walk leaves: whether one was found, and the variable. -/
def outF (o : Option ByteArray) (σ : ByteArray) : Bool × ByteArray := match o with | some r => (true, r) | none => (false, σ)
theorem first_loop (s : ByteArray) (long : Int) (m : Nat) (ih : ∀ (c : Int) (σ : ByteArray), isP c → Ev (fun k => drawnF (fun (_ : ByteArray) (p : ByteArray) => p) true k (s ++ ⟨#[toB c]⟩) long σ) (outF (fst1 m (s ++ ⟨#[toB c]⟩)) σ)) (σ : ByteArray) : ∀ (cs : List Int), (∀ c ∈ cs, isP c) →
    Ev (fun k => loopD (fun p s' => drawnF (fun (_ : ByteArray) (p : ByteArray) => p) true k p long s') s (cs.map toB) σ) (outF (cs.findSome? fun c => fst1 m (s ++ ⟨#[toB c]⟩)) σ)
  | [], hc => Ev.const rfl
  | c :: cs, hc => by
    have go := first_loop s long m ih σ cs (fun x hx => hc x (List.mem_cons_of_mem _ hx))
    have h1 := ih c σ (hc c List.mem_cons_self)
    rw [List.map_cons, List.findSome?_cons]
    unfold loopD
    refine Ev.bind h1 ?_
    cases fst1 m (s ++ ⟨#[toB c]⟩) with
    | some r => exact Ev.pos rfl (Ev.now _)
    | none => exact Ev.neg (by simp [outF]) go
theorem first_ev : ∀ (m : Nat) (s : ByteArray) (long : Int) (σ : ByteArray), okS s → (s.size : Int) + m = long → long ≤ 900 → Ev (fun k => drawnF (fun (_ : ByteArray) (p : ByteArray) => p) true k s long σ) (outF (fst1 m s) σ)
  | 0, s, long, σ, hs, hl, h9 => by
    apply Ev.succ; simp only [drawnF]
    exact Ev.pos (by omega) (Ev.now _)
  | m + 1, s, long, σ, hs, hl, h9 => by
    have hp := nextPoints_ev s (by omega) hs.1 hs.2
    have go := first_loop s long m (fun c σ' hc => first_ev m (s ++ ⟨#[toB c]⟩) long σ' (okS_ext s hc) (by rw [ext_size]; omega) h9) σ (nxt (bl s)) (nxt_isP _)
    apply Ev.succ; simp only [drawnF]
    refine Ev.neg (by omega) (Ev.pos (by omega) (Ev.bind hp (Ev.pos (asc_toB _ (nxt_isP _)) ?_)))
    rw [nums_toB]
    exact go
/-- What is told: the pattern and that there is one. -/
def told (o : Option ByteArray) : ByteArray × Bool := match o with | some r => (r, true) | none => ((⟨#[]⟩ : ByteArray), false)
theorem firstD_ev (s : ByteArray) (m : Nat) (long : Int) (hs : okS s) (hl : (s.size : Int) + m = long) (h9 : long ≤ 900) : Ev (fun k => firstD k s long) (told (fst1 m s)) := by
  obtain ⟨K, hK⟩ := first_ev m s long (⟨#[]⟩ : ByteArray) hs hl h9
  refine ⟨K, fun k hk => ?_⟩
  show firstD k s long = _
  unfold firstD
  have := hK k hk
  rw [show drawnF (fun (_ : ByteArray) (p : ByteArray) => p) true k s long (⟨#[]⟩ : ByteArray) = _ from this]
  cases fst1 m s <;> rfl
theorem piFirst_l0 (s : ByteArray) (hs : okS s) (h9 : s.size ≤ 900) (m : Nat) (hm : m ≤ 900) (ih : ∀ c : Int, isP c → Ev (fun k => spec_piFirst.f k (s ++ ⟨#[toB c]⟩) (m : Int)) (told (fst1 m (s ++ ⟨#[toB c]⟩)))) : ∀ (d i : Nat), i + d = 9 →
    Ev (fun k => spec_piFirst.l0 k s ((m + 1 : Nat) : Int) (49 + (i : Int))) (told (((pts.drop i).filter (goes (bl s))).findSome? fun c => fst1 m (s ++ ⟨#[toB c]⟩)))
  | 0, i, hi => by
    obtain rfl : i = 9 := by omega
    apply Ev.succ; simp only [spec_piFirst.l0]
    exact Ev.neg (by decide) (Ev.const rfl)
  | d + 1, i, hi => by
    obtain ⟨q1, q2⟩ := pts_at i (by omega)
    have e1 : (49 + (i : Int) + 1) % 256 = 49 + ((i + 1 : Nat) : Int) := by omega
    have e2 : wrap64 (((m + 1 : Nat) : Int) - 1) = (m : Int) := by rw [wrap_id (by omega) (by omega)]; omega
    have pg := piGoes_ev s _ (49 + (i : Int)) (by omega) hs.1 (last_bt s hs.1)
    have go := piFirst_l0 s hs h9 m hm ih d (i + 1) (by omega)
    rw [q2, List.filter_cons]
    apply Ev.succ; simp only [spec_piFirst.l0, e1, e2]
    refine Ev.pos (by omega) (Ev.bind pg ?_)
    show Ev (fun k => if goes (bl s) (49 + (i : Int)) = true then _ else _) _
    cases hg : goes (bl s) (49 + (i : Int)) with
    | true =>
      rw [if_pos rfl, List.findSome?_cons]
      have hz : s.size + (Utf8.encode (wrap32 (49 + (i : Int)))).size ≤ 9223372036854775807 := by
        rw [bl_len (Utf8.encode _), enc_pt i (by omega), List.length_singleton]; omega
      refine Ev.pos rfl (Ev.pos hz ?_)
      rw [enc_toB i (by omega)]
      refine Ev.bind (ih (49 + (i : Int)) ⟨by omega, by omega⟩) ?_
      cases fst1 m (s ++ ⟨#[toB (49 + (i : Int))]⟩) with
      | some r => exact Ev.pos rfl (Ev.now _)
      | none => exact Ev.neg (by simp [told]) go
    | false =>
      rw [if_neg (by decide)]
      exact Ev.neg (by decide) go
theorem piFirst_ev : ∀ (m : Nat) (s : ByteArray), okS s → s.size + m ≤ 900 → Ev (fun k => spec_piFirst.f k s (m : Int)) (told (fst1 m s))
  | 0, s, hs, h9 => by
    apply Ev.succ; simp only [spec_piFirst.f]
    exact Ev.pos (by omega) (Ev.now _)
  | m + 1, s, hs, h9 => by
    have go := piFirst_l0 s hs (by omega) m (by omega) (fun c hc => piFirst_ev m (s ++ ⟨#[toB c]⟩) (okS_ext s hc) (by rw [ext_size]; omega)) 9 0 (by omega)
    apply Ev.succ; simp only [spec_piFirst.f]
    exact Ev.neg (by omega) go
end Go.Proofs.YtfhbclfmnliopaaGreatDoor

namespace Go.Proofs.YtfhbclfmnliopaaGreatDoor
open Go.RowKit Go.Proofs.YtfhbclfmnliopaaGreatDoor.P Go.Proofs.YtfhbclfmnliopaaGreatDoorW.PrintWords
set_option linter.unusedSimpArgs false
set_option linter.unusedVariables false
/-! The letters of a text: sorted by insertion, each once. -/
theorem rd_mid (A R : List Int) (v : Int) (j : Nat) (hj : j = A.length) : rd (A ++ v :: R) (j : Int) = v := by
  subst hj
  unfold rd
  rw [Int.toNat_natCast, List.getD_eq_getElem?_getD, List.getElem?_append_right (Nat.le_refl _)]
  simp
theorem less_eq (a b : Int) : cmp_Less_byte.f a b = some (decide (a < b)) := by
  unfold cmp_Less_byte.f cmp_isNaN_byte.f
  simp
theorem set_swap (A R : List Int) (u v : Int) : ((A ++ u :: v :: R).set (A.length + 1) u).set A.length v = A ++ v :: u :: R := by
  rw [List.set_append_right _ _ (by omega), show A.length + 1 - A.length = 1 by omega, List.set_append_right _ _ (by omega), Nat.sub_self]
  rfl
theorem ins_l1 (i n : Nat) (hn : n ≤ 1000000) (q : List Int) (v : Int) : ∀ (m : Nat) (A B : List Int), A.length = m → (A ++ B).length = i → i + 1 + q.length = n → (A ++ B).Pairwise (· ≤ ·) → (∀ b ∈ B, v ≤ b) →
    ∃ t, t.Perm (A ++ v :: B) ∧ t.Pairwise (· ≤ ·) ∧ ∀ R, Ev (fun k => slices_insertionSortOrdered_byte.l0 k (t ++ q) 0 (n : Int) ((i + 1 : Nat) : Int)) R → Ev (fun k => slices_insertionSortOrdered_byte.l1 k (A ++ v :: (B ++ q)) 0 (n : Int) (i : Int) (m : Int)) R
  | 0, A, B, hA, hi, hq, hp, hv => by
    obtain rfl := List.length_eq_zero_iff.1 hA
    refine ⟨v :: B, List.Perm.refl _, List.pairwise_cons.2 ⟨hv, hp⟩, fun R hR => ?_⟩
    apply Ev.succ; simp only [slices_insertionSortOrdered_byte.l1]
    refine Ev.neg (by omega) ?_
    rw [show wrap64 ((i : Int) + 1) = ((i + 1 : Nat) : Int) by rw [wrap_id (by omega) (by omega)]; omega]
    exact hR
  | m + 1, A, B, hA, hi, hq, hp, hv => by
    rcases List.eq_nil_or_concat A with rfl | ⟨A', u, rfl⟩
    · simp at hA
    rw [List.concat_eq_append] at *
    have hA' : A'.length = m := by simpa using hA
    have hlen : (A' ++ [u] ++ v :: (B ++ q)).length = n := by simp at hi ⊢; omega
    have hm : m + 1 < n := by simp at hi; omega
    have e1 : wrap64 (((m + 1 : Nat) : Int) - 1) = (m : Int) := by rw [wrap_id (by omega) (by omega)]; omega
    have r1 : rd (A' ++ [u] ++ v :: (B ++ q)) ((m + 1 : Nat) : Int) = v := rd_mid _ _ _ _ (by simp; omega)
    have r2 : rd (A' ++ [u] ++ v :: (B ++ q)) (m : Int) = u := by
      rw [List.append_assoc]; exact rd_mid _ _ _ _ hA'.symm
    by_cases c : v < u
    · have hp' : (A' ++ u :: B).Pairwise (· ≤ ·) := by simpa using hp
      obtain ⟨t, t1, t2, t3⟩ := ins_l1 i n hn q v m A' (u :: B) hA' (by simpa using hi) hq hp' (by
        intro b hb
        rcases List.mem_cons.1 hb with rfl | hb
        · exact Int.le_of_lt c
        · exact hv b hb)
      refine ⟨t, t1.trans ?_, t2, fun R hR => ?_⟩
      · rw [List.append_assoc]
        exact List.Perm.append_left A' (List.Perm.swap _ _ _)
      · have go := t3 R hR
        apply Ev.succ; simp only [slices_insertionSortOrdered_byte.l1, e1, r1, r2, hlen, less_eq]
        refine Ev.pos (by omega) (Ev.pos (by omega) (Ev.pos (by omega) (Ev.pos (by omega) (Ev.pos (by omega) (Ev.bindc rfl (Ev.pos (by simpa using c) ?_))))))
        rw [Int.toNat_natCast, Int.toNat_natCast, show A' ++ [u] ++ v :: (B ++ q) = A' ++ u :: v :: (B ++ q) by simp, ← hA', set_swap]
        rw [hA']
        exact go
    · have hA2 := List.pairwise_append.1 hp
      have hAu := List.pairwise_append.1 hA2.1
      refine ⟨A' ++ [u] ++ v :: B, List.Perm.refl _, ?_, fun R hR => ?_⟩
      · refine List.pairwise_append.2 ⟨hA2.1, List.pairwise_cons.2 ⟨hv, hA2.2.1⟩, fun a ha b hb => ?_⟩
        have hau : a ≤ u := by
          rcases List.mem_append.1 ha with h | h
          · exact hAu.2.2 a h u (by simp)
          · rw [List.mem_singleton.1 h]; exact Int.le_refl _
        rcases List.mem_cons.1 hb with rfl | hb
        · omega
        · have := hv b hb; omega
      · apply Ev.succ; simp only [slices_insertionSortOrdered_byte.l1, e1, r1, r2, hlen, less_eq]
        refine Ev.pos (by omega) (Ev.pos (by omega) (Ev.pos (by omega) (Ev.pos (by omega) (Ev.pos (by omega) (Ev.bindc rfl (Ev.neg (by simpa using c) ?_))))))
        rw [show wrap64 ((i : Int) + 1) = ((i + 1 : Nat) : Int) by rw [wrap_id (by omega) (by omega)]; omega]
        simpa using hR
theorem ins_l0 (n : Nat) (hn : n ≤ 1000000) : ∀ (d i : Nat) (S q : List Int), S.length = i → q.length = d → i + d = n → S.Pairwise (· ≤ ·) → ∃ t, t.Perm (S ++ q) ∧ t.Pairwise (· ≤ ·) ∧ Ev (fun k => slices_insertionSortOrdered_byte.l0 k (S ++ q) 0 (n : Int) (i : Int)) t
  | 0, i, S, q, hS, hq, hi, hp => by
    obtain rfl := List.length_eq_zero_iff.1 hq
    refine ⟨S, by simp, hp, ?_⟩
    apply Ev.succ; simp only [slices_insertionSortOrdered_byte.l0]
    exact Ev.neg (by omega) (Ev.const (by simp))
  | d + 1, i, S, q, hS, hq, hi, hp => by
    obtain ⟨v, q', rfl⟩ : ∃ v q', q = v :: q' := by cases q with
      | nil => simp at hq
      | cons v q' => exact ⟨v, q', rfl⟩
    have hq' : q'.length = d := by simpa using hq
    obtain ⟨t, t1, t2, t3⟩ := ins_l1 i n hn q' v i S [] hS (by simpa using hS) (by omega) (by simpa using hp) (by simp)
    have hl : t.length = i + 1 := by rw [t1.length_eq]; simp [hS]
    obtain ⟨r, r1, r2, r3⟩ := ins_l0 n hn d (i + 1) t q' hl hq' (by omega) t2
    refine ⟨r, r1.trans ?_, r2, ?_⟩
    · have := List.Perm.append_right q' t1
      simpa using this
    · apply Ev.succ; simp only [slices_insertionSortOrdered_byte.l0]
      refine Ev.pos (by omega) ?_
      have := t3 r r3
      simpa using this
theorem sort_ev (l : List Int) (hl : l.length ≤ 12) : ∃ t, t.Perm l ∧ t.Pairwise (· ≤ ·) ∧ Ev (fun k => slices_Sort_byte_byte.f k l) t := by
  have key : ∃ t, t.Perm l ∧ t.Pairwise (· ≤ ·) ∧ Ev (fun k => slices_insertionSortOrdered_byte.f k l 0 (l.length : Int)) t := by
    unfold slices_insertionSortOrdered_byte.f
    rw [show wrap64 ((0 : Int) + 1) = ((1 : Nat) : Int) by rw [wrap_id (by omega) (by omega)]; rfl]
    cases l with
    | nil =>
      refine ⟨[], List.Perm.refl _, List.Pairwise.nil, ?_⟩
      apply Ev.succ; simp only [slices_insertionSortOrdered_byte.l0]
      exact Ev.neg (by simp) (Ev.now _)
    | cons x l =>
      have hl' : (x :: l).length = l.length + 1 := rfl
      exact ins_l0 (x :: l).length (by omega) l.length 1 [x] l rfl rfl (by omega) (List.pairwise_singleton _ _)
  obtain ⟨t, t1, t2, t3⟩ := key
  refine ⟨t, t1, t2, ?_⟩
  unfold slices_Sort_byte_byte.f
  have hw : IntKind.u64.wrap (l.length : Int) = (l.length : Int) := by
    show (l.length : Int) % 18446744073709551616 = _
    omega
  refine Ev.bindc (x := (Lib.bitLen l.length : Int)) (by unfold bits_Len.f; rw [hw, if_pos ⟨by omega, by omega⟩, Int.toNat_natCast]) (Ev.bind ?_ (Ev.now _))
  unfold slices_pdqsortOrdered_byte.f
  refine Ev.pos ?_ t3
  rw [wrap_id (by omega) (by omega)]; omega
/-! Each once. -/
theorem keeps_iff (t : List Int) (j : Nat) (hj : j < t.length) : Lib.keeps t.toArray j = true ↔ j = 0 ∨ ∃ h : 0 < j, t[j] ≠ t[j - 1] := by
  unfold Lib.keeps
  rw [decide_eq_true_iff, getElem!_pos t.toArray j (by simpa using hj), getElem!_pos t.toArray (j - 1) (by simp; omega)]
  simp only [List.getElem_toArray]
  constructor
  · rintro (h | h)
    · exact .inl h
    · by_cases h0 : j = 0
      · exact .inl h0
      · exact .inr ⟨by omega, h⟩
  · rintro (h | ⟨_, h⟩)
    · exact .inl h
    · exact .inr h
theorem strict_of (t : List Int) (hs : t.Pairwise (· ≤ ·)) (hk : ∀ j, j < t.length → Lib.keeps t.toArray j = true) : t.Pairwise (· < ·) := by
  rw [List.pairwise_iff_getElem] at hs ⊢
  intro i j hi hj hij
  have h1 := (keeps_iff t j hj).1 (hk j hj)
  rcases h1 with h1 | ⟨h0, h1⟩
  · omega
  · have h2 := hs (j - 1) j (by omega) hj (by omega)
    have h3 : t[i] ≤ t[j - 1] := by
      by_cases e : i = j - 1
      · subst e; exact Int.le_refl _
      · exact hs i (j - 1) hi (by omega) (by omega)
    omega
theorem keeps_of (t : List Int) (hs : t.Pairwise (· < ·)) : ∀ j, j < t.length → Lib.keeps t.toArray j = true := by
  rw [List.pairwise_iff_getElem] at hs
  intro j hj
  rw [keeps_iff t j hj]
  by_cases h0 : j = 0
  · exact .inl h0
  · exact .inr ⟨by omega, fun e => by have := hs (j - 1) j (by omega) hj (by omega); omega⟩
theorem compact_all (t : List Int) (hs : t.Pairwise (· < ·)) : Lib.compactUpTo t.toArray t.length = t := by
  rw [Lib.compactUpTo_all _ _ (keeps_of t hs)]
  apply List.ext_getElem
  · simp
  · intro i h1 h2
    rw [List.getElem_map, List.getElem_range, getElem!_pos t.toArray i (by simpa using h2)]
    simp
theorem keeps_all_of (t : List Int) (h : (Lib.compactUpTo t.toArray t.length).length = t.length) : ∀ j, j < t.length → Lib.keeps t.toArray j = true := by
  unfold Lib.compactUpTo at h
  rw [List.length_map] at h
  intro j hj
  have := List.filter_eq_self.1 (List.filter_sublist.eq_of_length (by rw [h, List.length_range]))
  exact this j (List.mem_range.2 hj)
/-- lettersOf answers; as many letters as bytes just where none comes twice; and the text itself just where it ascends. -/
theorem letters_ev (s : ByteArray) (hs : s.size ≤ 12) : ∃ r, Ev (fun k => impl_lettersOf.f k s) r ∧ (r.size = s.size ↔ (bl s).Nodup) ∧ (bl r = bl s ↔ (bl s).Pairwise (· < ·)) := by
  have hlb : (bytesOf s).length = s.size := by unfold bytesOf; rw [List.length_map]; rfl
  have hbo : bytesOf s = (bl s).map fun b => (b.toNat : Int) := rfl
  obtain ⟨t, t1, t2, t3⟩ := sort_ev (bytesOf s) (by omega)
  have hlen : t.length = s.size := by rw [t1.length_eq, hlb]
  have hall : ∀ x ∈ t, 0 ≤ x ∧ x < 256 := by
    intro x hx
    have := t1.mem_iff.1 hx
    rw [hbo, List.mem_map] at this
    obtain ⟨b, _, rfl⟩ := this
    have := b.toNat_lt
    omega
  have hnd : t.Nodup ↔ (bl s).Nodup := by
    rw [t1.nodup_iff, hbo]
    unfold List.Nodup
    rw [List.pairwise_map]
    exact ⟨fun h => h.imp (fun h e => h (by rw [e])), fun h => h.imp (fun h e => h (UInt8.toNat_inj.1 (by omega)))⟩
  have back : ∀ l : List UInt8, (l.map fun b => (b.toNat : Int)).map (fun x => UInt8.ofNat x.toNat) = l := by
    intro l
    rw [List.map_map]
    have : ((fun x : Int => UInt8.ofNat x.toNat) ∘ fun b : UInt8 => (b.toNat : Int)) = id := by
      funext b; exact of_toNat b
    rw [this, List.map_id]
  refine ⟨⟨((Lib.compactUpTo t.toArray t.length).map fun x => UInt8.ofNat x.toNat).toArray⟩, ?_, ?_, ?_⟩
  · unfold impl_lettersOf.f
    refine Ev.bind t3 (Ev.const ?_)
    rw [if_pos ⟨hlen, by omega, by rw [List.all_eq_true]; intro x hx; simpa using hall x hx⟩]
  · rw [bl_len, bl_mk]
    simp only [List.length_map]
    rw [← hnd]
    constructor
    · intro h
      have := strict_of t t2 (keeps_all_of t (by rw [hlen]; rw [hlen] at h; exact h))
      exact this.imp (fun h e => by omega)
    · intro h
      have hst : t.Pairwise (· < ·) := by
        have := t2.and h
        exact this.imp (fun ⟨h1, h2⟩ => by omega)
      rw [compact_all t hst, hlen]
  · rw [bl_mk]
    simp only []
    constructor
    · intro h
      have hl := congrArg List.length h
      rw [List.length_map, ← bl_len] at hl
      have hst := strict_of t t2 (keeps_all_of t (by rw [hlen]; rw [hlen] at hl; exact hl))
      rw [compact_all t hst] at h
      rw [← h]
      rw [List.pairwise_map]
      refine List.Pairwise.imp_of_mem ?_ hst
      intro a b ha hb hab
      have h1 := hall a ha
      have h2 := hall b hb
      rw [UInt8.lt_iff_toNat_lt]
      simp; omega
    · intro h
      have hb : (bytesOf s).Pairwise (· < ·) := by
        rw [hbo, List.pairwise_map]
        exact h.imp (fun h => by rw [UInt8.lt_iff_toNat_lt] at h; omega)
      have he : t = bytesOf s := t1.eq_of_pairwise (le := (· ≤ ·)) (fun a b _ _ h1 h2 => by omega) t2 (hb.imp (fun h => by omega))
      rw [he, compact_all _ hb, hbo, back]
end Go.Proofs.YtfhbclfmnliopaaGreatDoor

namespace Go.Proofs.YtfhbclfmnliopaaGreatDoor
open Go.RowKit Go.Proofs.YtfhbclfmnliopaaGreatDoor.P Go.Proofs.YtfhbclfmnliopaaGreatDoorW.PrintWords
set_option linter.unusedSimpArgs false
set_option linter.unusedVariables false
theorem in_eq (n a b : Int) : impl_in.f n a b = some (decide (a ≤ n) && decide (n ≤ b)) := by
  unfold impl_in.f
  by_cases h : a ≤ n
  · rw [if_pos h]; simp [h]
  · rw [if_neg h]; simp [h]
theorem l1In_eq (n a b : Int) : spec_l1In.f n a b = some (decide (a ≤ n) && decide (n ≤ b)) := by
  unfold spec_l1In.f
  by_cases h : a ≤ n
  · rw [if_pos h]; simp [h]
  · rw [if_neg h]; simp [h]
end Go.Proofs.YtfhbclfmnliopaaGreatDoor

namespace Go.Proofs.YtfhbclfmnliopaaGreatDoor
open Go.RowKit Go.Proofs.YtfhbclfmnliopaaGreatDoor.P Go.Proofs.YtfhbclfmnliopaaGreatDoorW.PrintWords
set_option linter.unusedSimpArgs false
set_option linter.unusedVariables false
theorem over_eq (s cs : ByteArray) (h1 : s.size ≤ 9223372036854775807) (h2 : cs.size < 4294967281) (h3 : (bl cs).all (fun b => decide (b.toNat < 128)) = true) : impl_over.f s cs = some ((bl s).all ((bl cs).contains ·)) := by
  unfold impl_over.f strings_Trim.f
  rw [if_pos ⟨h1, h2, h3⟩]
  simp only [Option.bind_some]
  congr 1
  rw [bl_toList, bl_mk, List.toList_toArray]
  have := trimS_nil (bl s) (bl cs)
  unfold bl at this ⊢
  rw [Bool.eq_iff_iff, beq_iff_eq]
  exact this
/-- Is it a digit's sign? -/
def isDig (c : UInt8) : Bool := decide (48 ≤ c.toNat) && decide (c.toNat ≤ 57)
theorem overDig_eq (s : ByteArray) (h1 : s.size ≤ 9223372036854775807) : impl_over.f s (⟨#[48, 49, 50, 51, 52, 53, 54, 55, 56, 57]⟩ : ByteArray) = some ((bl s).all isDig) := by
  rw [over_eq s _ h1 (by decide) (by decide)]
  congr 1
  congr 1
  funext c
  exact dig_contains c
/-- Digits, of a length. -/
def digsB (l : List UInt8) (a b : Nat) : Bool := decide (a ≤ l.length) && decide (l.length ≤ b) && l.all isDig
theorem isDigits_eq (s : ByteArray) (a b : Nat) (h1 : s.size ≤ 9223372036854775807) : impl_isDigits.f s a b = some (digsB (bl s) a b) := by
  unfold impl_isDigits.f digsB
  rw [in_eq]
  have e : (decide ((a : Int) ≤ (s.size : Int)) && decide ((s.size : Int) ≤ (b : Int))) = (decide (a ≤ (bl s).length) && decide ((bl s).length ≤ b)) := by
    rw [bl_len]; congr 1 <;> (rw [decide_eq_decide]; omega)
  rw [e]
  simp only [Option.bind_some]
  cases (decide (a ≤ (bl s).length) && decide ((bl s).length ≤ b)) with
  | false => rfl
  | true => rw [if_pos rfl, overDig_eq s h1]; rfl
theorem isDig_at {l : List UInt8} (h : l.all isDig = true) (i : Nat) (hi : i < l.length) : 48 ≤ l[i].toNat ∧ l[i].toNat ≤ 57 := by
  have := List.all_eq_true.1 h _ (List.getElem_mem hi)
  unfold isDig at this
  simpa only [Bool.and_eq_true, decide_eq_true_eq] using this
end Go.Proofs.YtfhbclfmnliopaaGreatDoor

