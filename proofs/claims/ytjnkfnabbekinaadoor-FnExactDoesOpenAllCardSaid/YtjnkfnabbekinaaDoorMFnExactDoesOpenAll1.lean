/- Part 1 of 1 of the proof of: FnExactDoesOpenAllCardSaid: the law 'FnExactDoesOpenAll' answers true for every input, and leaves its arguments as they were. The row and its tied card, over the walk of its calls and the pure statement. -/
import Derived.Test.YtjnkfnabbekinaaDoorProg
import Derived.Below
import Derived.Deep.Draws
import Derived.Deep.AppendLies
import Derived.Maps.AppendAt
import Derived.OwnWalk
import Derived.Laws.BytesArg
import Derived.Laws.MakeOwn
import Derived.Laws.OwnMore
import Derived.Deep.OwnRows
import Derived.Tactics
import Derived.Lib.ConvBytes
import Derived.Laws.Slices
import Derived.WalkKit
import Derived.KernelRfl
import Derived.RowKit3
import Derived.Deep.LoopGhost
import Derived.Deep.QuietTactic
import Derived.BigQuiet
import Derived.WideLaws
import Derived.Deep.DeepCutAuto
import Derived.Deep.CutBlock
import Derived.Deep.RegionHeld3
import Derived.Laws.Rows
import Derived.Lib.AppendStr
import Derived.ArgAppend
import Derived.Laws.IdiomCopy
import Derived.OrdersHeld
import Derived.Laws.BitsLemmas
import Derived.RowKit
import Derived.Laws.Runes
import Derived.Test.YtjnkfnabbekinaaDoorWWords
import Derived.Test.YtjnkfnabbekinaaDoorWLast
import Derived.Test.YtjnkfnabbekinaaDoorWTab
import Derived.Test.YtjnkfnabbekinaaDoorWFour
import Derived.Test.YtjnkfnabbekinaaDoorWQPut
import Derived.Test.YtjnkfnabbekinaaDoorWApart
import Derived.Test.YtjnkfnabbekinaaDoorWArr
import Derived.Test.YtjnkfnabbekinaaDoorWZeros
import Derived.Test.YtjnkfnabbekinaaDoorWFoot
import Derived.Test.YtjnkfnabbekinaaDoorWKept
import Derived.Test.YtjnkfnabbekinaaDoorWShare
import Derived.Test.YtjnkfnabbekinaaDoorWN
import Derived.Test.YtjnkfnabbekinaaDoorWFootNe
import Derived.Test.YtjnkfnabbekinaaDoorWAt
import Derived.Test.YtjnkfnabbekinaaDoorWEqStruct
import Derived.Test.YtjnkfnabbekinaaDoorWRepsOne
import Derived.Test.YtjnkfnabbekinaaDoorWInv
import Derived.Test.YtjnkfnabbekinaaDoorWInvWords
import Derived.Test.YtjnkfnabbekinaaDoorWGuard
import Derived.Test.YtjnkfnabbekinaaDoorWNEv
import Derived.Test.YtjnkfnabbekinaaDoorWMore
import Derived.Ground.NamesProg
import Derived.Shelf.Strings.Search3
import Derived.Shelf.Strings.SlTrimAscii
import Derived.Shelf.Abstract
import Derived.Laws.Strings
import Derived.Lib.SlTrimSet
import Derived.Lib.Bytealg
import Derived.Lib.IndexMore
import Derived.ProofKit
import Derived.OpenShut
import Derived.ShutString
import Derived.ChangeOld
import Derived.SizedLaws
import Derived.ChangeSlices
import Derived.SliceStrings
import Derived.Lib.SmallJoins
import Derived.LaidLaws
import Derived.LaidHandle
import Derived.LaidMore
import Derived.Test.YtjnkfnabbekinaaDoorRows
import Derived.Test.YtjnkfnabbekinaaDoorCards
import Derived.Test.YtjnkfnabbekinaaDoorTie
import Derived.HandedShaped
import Derived.Shelf.Vars
import Derived.Handed
import Derived.SevenTiedAt
import Derived.Stop.Joined
-- printed by xprint.py
namespace Go.Proofs.YtjnkfnabbekinaaDoor.P
open Go.RowKit Go.Proofs.YtjnkfnabbekinaaDoorW.PrintWords Go.Proofs.YtjnkfnabbekinaaDoorW.PrintLast Go.Proofs.YtjnkfnabbekinaaDoorW.PrintMore
attribute [local go_sem] max2_int min2_int max_two min_two max_three min_three max_four min_four   -- for this text's walks alone
set_option linter.unusedVariables false
set_option linter.unusedSimpArgs false



def errW : Option Int → Value
 | none => .nilIface
 | some c => .iface 0 (.int .i64 c)
theorem errW_none : errW none = .nilIface := rfl
theorem errW_some (c : Int) : errW (some c) = .iface 0 (.int .i64 c) := rfl

theorem info3 : (Tryd.prog.info? 3).map (fun i => (i.zero, i.size, i.bytes)) = some (some (.int .i64 0), 1, 8) := by kernel_rfl
theorem info5 : (Tryd.prog.info? 5).map (fun i => (i.zero, i.size, i.bytes)) = some (some (.int .u8 0), 1, 1) := by kernel_rfl
theorem info9 : (Tryd.prog.info? 9).map (fun i => (i.zero, i.size, i.bytes)) = some (some (.string ⟨#[]⟩), 1, 16) := by kernel_rfl
theorem info62 : (Tryd.prog.info? 62).map (fun i => (i.zero, i.size, i.bytes)) = some (some (.agg #[(.string ⟨#[]⟩), (.int .i64 0), (.int .i64 0)]), 3, 32) := by kernel_rfl
-- the values' own types
/-! #### struct type 61 -/
structure S61 where
 f0 : ByteArray
 f1 : Int
 f2 : Int
def z61 : S61 := ⟨(⟨#[]⟩ : ByteArray), (0 : Int), (0 : Int)⟩
def k61 : Kd S61 := Kd.iso (Kd.pair Kd.string (Kd.pair (Kd.int .i64) (Kd.int .i64))) (fun x : S61 => (x.f0, x.f1, x.f2))
theorem k61_open {w : World} {x : S61} {cs : List Value} (h : k61.K w x cs) : cs = [.string x.f0, .int .i64 x.f1, .int .i64 x.f2] := by
 obtain ⟨_, _, rfl, rfl, ⟨_, _, rfl, rfl, rfl⟩⟩ := h
 exact rfl
theorem k61_openM {w : World} {base : Nat} {ok : Nat → Prop} {x : S61} {cs : List Value} (h : k61.M w base ok x cs) : cs = [.string x.f0, .int .i64 x.f1, .int .i64 x.f2] := by
 obtain ⟨_, _, rfl, rfl, ⟨_, _, rfl, rfl, rfl⟩⟩ := h
 exact rfl
theorem k61_mk (w : World) (x : S61)  : k61.K w x [.string x.f0, .int .i64 x.f1, .int .i64 x.f2] := ⟨[.string x.f0], [.int .i64 x.f1, .int .i64 x.f2], rfl, rfl, ⟨[.int .i64 x.f1], [.int .i64 x.f2], rfl, rfl, rfl⟩⟩
theorem k61_mkM (w : World) (base : Nat) (ok : Nat → Prop) (x : S61)  : k61.M w base ok x [.string x.f0, .int .i64 x.f1, .int .i64 x.f2] := ⟨[.string x.f0], [.int .i64 x.f1, .int .i64 x.f2], rfl, rfl, ⟨[.int .i64 x.f1], [.int .i64 x.f2], rfl, rfl, rfl⟩⟩
def rd_T61 (xs : List S61) (i : Int) : S61 := xs.getD i.toNat z61
theorem at_T61 {w : World} {A : Option Addr} {n : Nat} {xs : List S61} (h : Kd.C k61 w A n xs) (i : Int) (h0 : 0 ≤ i) (h1 : i < n) : ∃ ad , A = some ad ∧ w.cell? (ad.add (i.toNat * 3)) = some (.string (rd_T61 xs i).f0) ∧ w.cell? ⟨(ad.add (i.toNat * 3)).block, (ad.add (i.toNat * 3)).off + 1, none⟩ = some (.int .i64 (rd_T61 xs i).f1) ∧ w.cell? ⟨(ad.add (i.toNat * 3)).block, (ad.add (i.toNat * 3)).off + 2, none⟩ = some (.int .i64 (rd_T61 xs i).f2) := by
 obtain ⟨ad, c, e, _, hK, hc0⟩ := Kd.C_get h z61 i h0 h1
 have hc : ∀ j u, c[j]? = some u → w.cell? (ad.add (i.toNat * 3 + j)) = some u := hc0
 obtain rfl := k61_open hK
 exact ⟨ad, e, hc 0 _ rfl, by rw [← add_field _ _ 1 (by omega)]; exact hc 1 _ rfl, by rw [← add_field _ _ 2 (by omega)]; exact hc 2 _ rfl⟩

/-! #### struct type 62 -/
structure S62 where
 f0 : ByteArray
 f1 : Int
 f2 : Int
def z62 : S62 := ⟨(⟨#[]⟩ : ByteArray), (0 : Int), (0 : Int)⟩
def k62 : Kd S62 := Kd.iso (Kd.pair Kd.string (Kd.pair (Kd.int .i64) (Kd.int .i64))) (fun x : S62 => (x.f0, x.f1, x.f2))
theorem k62_open {w : World} {x : S62} {cs : List Value} (h : k62.K w x cs) : cs = [.string x.f0, .int .i64 x.f1, .int .i64 x.f2] := by
 obtain ⟨_, _, rfl, rfl, ⟨_, _, rfl, rfl, rfl⟩⟩ := h
 exact rfl
theorem k62_openM {w : World} {base : Nat} {ok : Nat → Prop} {x : S62} {cs : List Value} (h : k62.M w base ok x cs) : cs = [.string x.f0, .int .i64 x.f1, .int .i64 x.f2] := by
 obtain ⟨_, _, rfl, rfl, ⟨_, _, rfl, rfl, rfl⟩⟩ := h
 exact rfl
theorem k62_mk (w : World) (x : S62)  : k62.K w x [.string x.f0, .int .i64 x.f1, .int .i64 x.f2] := ⟨[.string x.f0], [.int .i64 x.f1, .int .i64 x.f2], rfl, rfl, ⟨[.int .i64 x.f1], [.int .i64 x.f2], rfl, rfl, rfl⟩⟩
theorem k62_mkM (w : World) (base : Nat) (ok : Nat → Prop) (x : S62)  : k62.M w base ok x [.string x.f0, .int .i64 x.f1, .int .i64 x.f2] := ⟨[.string x.f0], [.int .i64 x.f1, .int .i64 x.f2], rfl, rfl, ⟨[.int .i64 x.f1], [.int .i64 x.f2], rfl, rfl, rfl⟩⟩
def rd_T62 (xs : List S62) (i : Int) : S62 := xs.getD i.toNat z62
theorem at_T62 {w : World} {A : Option Addr} {n : Nat} {xs : List S62} (h : Kd.C k62 w A n xs) (i : Int) (h0 : 0 ≤ i) (h1 : i < n) : ∃ ad , A = some ad ∧ w.cell? (ad.add (i.toNat * 3)) = some (.string (rd_T62 xs i).f0) ∧ w.cell? ⟨(ad.add (i.toNat * 3)).block, (ad.add (i.toNat * 3)).off + 1, none⟩ = some (.int .i64 (rd_T62 xs i).f1) ∧ w.cell? ⟨(ad.add (i.toNat * 3)).block, (ad.add (i.toNat * 3)).off + 2, none⟩ = some (.int .i64 (rd_T62 xs i).f2) := by
 obtain ⟨ad, c, e, _, hK, hc0⟩ := Kd.C_get h z62 i h0 h1
 have hc : ∀ j u, c[j]? = some u → w.cell? (ad.add (i.toNat * 3 + j)) = some u := hc0
 obtain rfl := k62_open hK
 exact ⟨ad, e, hc 0 _ rfl, by rw [← add_field _ _ 1 (by omega)]; exact hc 1 _ rfl, by rw [← add_field _ _ 2 (by omega)]; exact hc 2 _ rfl⟩

end Go.Proofs.YtjnkfnabbekinaaDoor.P

-- printed by xprint.py
namespace Go.Proofs.YtjnkfnabbekinaaDoor.P
open Go.RowKit Go.Proofs.YtjnkfnabbekinaaDoorW.PrintWords Go.Proofs.YtjnkfnabbekinaaDoorW.PrintLast Go.Proofs.YtjnkfnabbekinaaDoorW.PrintMore
attribute [local go_sem] max2_int min2_int max_two min_two max_three min_three max_four min_four   -- for this text's walks alone
set_option linter.unusedVariables false
set_option linter.unusedSimpArgs false

/-! ### strings_Contains: function 73 -/
def strings_Contains.f (a0 : ByteArray) (a1 : ByteArray) : Option Bool := if a0.size < 4294967281 then some (Lib.contains a0.data.toList a1.data.toList) else none
end Go.Proofs.YtjnkfnabbekinaaDoor.P
namespace Go.Proofs
open Go.Shelf
def YtjnkfnabbekinaaDoorlaysContains_ren : Go.Shelf.Ren := ⟨fun | 144 => 73 | 143 => 54 | 219 => 76 | 217 => 86 | 225 => 87 | 224 => 88 | 267 => 89 | 266 => 102 | 314 => 103 | n => n, fun | 9 => 9 | 4 => 4 | 3 => 3 | 5 => 5 | 46 => 83 | 146 => 94 | 51 => 93 | n => n, fun | 1 => 0 | n => n⟩
theorem YtjnkfnabbekinaaDoorlaysContains : Go.Proofs.Lays.n144 Tryd.prog YtjnkfnabbekinaaDoorlaysContains_ren := {
  mixed := by kernel_rfl
  f143 := Tryd.func54.trans (congrArg some (by kernel_rfl))
  f144 := Tryd.func73.trans (congrArg some (by kernel_rfl))
  f217 := Tryd.func86.trans (congrArg some (by kernel_rfl))
  f219 := Tryd.func76.trans (congrArg some (by kernel_rfl))
  f224 := Tryd.func88.trans (congrArg some (by kernel_rfl))
  f225 := Tryd.func87.trans (congrArg some (by kernel_rfl))
  f266 := Tryd.func102.trans (congrArg some (by kernel_rfl))
  f267 := Tryd.func89.trans (congrArg some (by kernel_rfl))
  f314 := Tryd.func103.trans (congrArg some (by kernel_rfl))
  t3 := Tryd.underlying3
  a3 := Tryd.isAgg3
  z3 := Tryd.sizeOf3
  v3 := Tryd.zeroValue3
  t4 := Tryd.underlying4
  a4 := Tryd.isAgg4
  z4 := Tryd.sizeOf4
  v4 := Tryd.zeroValue4
  t5 := Tryd.underlying5
  a5 := Tryd.isAgg5
  z5 := Tryd.sizeOf5
  v5 := Tryd.zeroValue5
  t9 := Tryd.underlying9
  a9 := Tryd.isAgg9
  z9 := Tryd.sizeOf9
  v9 := Tryd.zeroValue9
  t46 := Tryd.underlying83
  a46 := Tryd.isAgg83
  z46 := Tryd.sizeOf83
  v46 := Tryd.zeroValue83
  t51 := Tryd.underlying93
  a51 := Tryd.isAgg93
  z51 := Tryd.sizeOf93
  v51 := Tryd.zeroValue93
  t146 := Tryd.underlying94
  a146 := Tryd.isAgg94
  z146 := Tryd.sizeOf94
  v146 := Tryd.zeroValue94
  g1 := by kernel_rfl }
end Go.Proofs
namespace Go.Proofs.YtjnkfnabbekinaaDoor.P
open Go.RowKit Go.Proofs.YtjnkfnabbekinaaDoorW.PrintWords Go.Proofs.YtjnkfnabbekinaaDoorW.PrintLast Go.Proofs.YtjnkfnabbekinaaDoorW.PrintMore
theorem strings_Contains.calls (a0 : ByteArray) (a1 : ByteArray) (r : Bool) (w : World) (hml : ∃ m_ : Int, w.cell? ⟨0, 0, none⟩ = some (.int .i64 m_)) (h : strings_Contains.f a0 a1 = some r) :
  Calls Tryd.prog 73 #[.string a0, .string a1] w fun e w' => e = .returned (.bool r) ∧ Drawn0 w w' := by
 obtain ⟨m_, hm_⟩ := hml
 unfold strings_Contains.f at h
 split at h
 ·
  rename_i c
  obtain rfl := Option.some.inj h
  have hcon := Any.strings_Contains YtjnkfnabbekinaaDoorlaysContains a0 a1 m_ w c hm_
  change Calls Tryd.prog 73 _ _ _ at hcon
  exact hcon.mono fun e w' he => ⟨he.1, by rw [he.2]; exact Drawn0.refl _⟩
 ·
  cases h

end Go.Proofs.YtjnkfnabbekinaaDoor.P

-- printed by xprint.py
namespace Go.Proofs.YtjnkfnabbekinaaDoor.P
open Go.RowKit Go.Proofs.YtjnkfnabbekinaaDoorW.PrintWords Go.Proofs.YtjnkfnabbekinaaDoorW.PrintLast Go.Proofs.YtjnkfnabbekinaaDoorW.PrintMore
attribute [local go_sem] max2_int min2_int max_two min_two max_three min_three max_four min_four   -- for this text's walks alone
set_option linter.unusedVariables false
set_option linter.unusedSimpArgs false

/-! ### impl_DoesOpenAll_1: function 72 -/
def impl_DoesOpenAll_1.f (a0 : ByteArray) (a1_0 : ByteArray) : Option (Bool) := (strings_Contains.f a1_0 a0).bind fun t101 => (some (!t101))
set_option maxHeartbeats 8000000 in
set_option maxRecDepth 100000 in
theorem impl_DoesOpenAll_1.calls (a0 : ByteArray) (g1 : Nat) (a1_0 : ByteArray) (r : Bool) (w : World) (hb1 : w.heap[g1]? = some (.cells #[.string a1_0] 9 (0, 0))) (hml : ∃ m_ : Int, w.cell? ⟨0, 0, none⟩ = some (.int .i64 m_)) (h : impl_DoesOpenAll_1.f a0 a1_0 = some r) :
  Calls Tryd.prog 72 #[.string a0, .pointer (some ⟨g1, 0, none⟩)] w fun e w' => e = .returned (.bool r) ∧ Drawn0 w w' := by
 obtain ⟨ml_, hml⟩ := hml
 have HML := Aside0.mk hml
 clear hml
 have HX1 := Aside0.mk hb1
 clear hb1
 have H : ((strings_Contains.f a1_0 a0).bind fun t101 => (some (!t101))) = some r := h
 clear h
 replace H := Option.bind_eq_some_iff.mp H
 obtain ⟨t101, A30, H⟩ := H
 replace H : (some (!t101)) = some r := H
 have A3 := Aside0.mk A30
 clear A30
 obtain rfl := Option.some.inj H
 have hcz4_0 : w.cell? ⟨g1, 0, none⟩ = some (.string a1_0) := (blk_cell HX1.out 0).trans rfl
 go_enter Tryd.func72, Tryd.ntmps72
 go_wp2_with (first | ((with_reducible refine gate_callee (f := 73) rfl ?_); refine goesL_ (some 6) rfl rfl Tryd.func73 (by kernel_rfl) rfl #[.string a1_0, .string a0] rfl (by (try simp only [List.map_toArray, List.map_cons, List.map_nil]); first | done | rfl | (simp only [List.length_drop, List.length_take]; rfl)) ?_; (with_reducible refine (strings_Contains.calls a1_0 a0 t101 _ (by first | exact ⟨_, HML.out⟩ | (with_unfolding_all exact ⟨_, HML.out⟩) | exact ⟨_, (HB.out.cell (World.block_lt_of_cell? _ _ HML.out)).trans HML.out⟩) A3.out).mono ?_); rintro e w' ⟨rfl, ⟨nd, rfl⟩⟩; refine ⟨_, rfl, ?_⟩))
 go_ret
 exact ⟨by first | rfl | (simp; done) | (simp [*]; done), by repeat (first | exact Drawn0.refl _ | apply Drawn0.step)⟩

end Go.Proofs.YtjnkfnabbekinaaDoor.P

-- printed by xprint.py
namespace Go.Proofs.YtjnkfnabbekinaaDoor.P
open Go.RowKit Go.Proofs.YtjnkfnabbekinaaDoorW.PrintWords Go.Proofs.YtjnkfnabbekinaaDoorW.PrintLast Go.Proofs.YtjnkfnabbekinaaDoorW.PrintMore
attribute [local go_sem] max2_int min2_int max_two min_two max_three min_three max_four min_four   -- for this text's walks alone
set_option linter.unusedVariables false
set_option linter.unusedSimpArgs false

/-! ### impl_allTexts: function 71 -/
mutual
def impl_allTexts.l0 : Nat → Int → List ByteArray → Int → Int → Option (List ByteArray)
 | 0, _, _, _, _ => none
 | k + 1, x0, x5, x11, x12 => if x12 < x11 then (impl_allTexts.l1 k x0 (([] : List ByteArray)) x11 x12 x5 (x5.length : Int) 0) else (some x5)
def impl_allTexts.l1 : Nat → Int → List ByteArray → Int → Int → List ByteArray → Int → Int → Option (List ByteArray)
 | 0, _, _, _, _, _, _, _ => none
 | k + 1, x0, x6, x11, x12, x15, x16, x17 => if x17 < x16 then (if 0 ≤ x17 then (if x17 < (x15.length : Int) then (impl_allTexts.l2 k x0 x6 (rdOf ByteArray.empty x15 x17) x11 x12 x15 x16 x17 x0 0) else (none)) else (none)) else (impl_allTexts.l0 k x0 x6 x11 (wrap64 (x12 + 1)))
def impl_allTexts.l2 : Nat → Int → List ByteArray → ByteArray → Int → Int → List ByteArray → Int → Int → Int → Int → Option (List ByteArray)
 | 0, _, _, _, _, _, _, _, _, _, _ => none
 | k + 1, x0, x6, x8, x11, x12, x15, x16, x17, x21, x22 => if x22 < x21 then (if 0 ≤ x22 then (if x22 ≤ (wrap64 (x22 + 1)) then (if (wrap64 (x22 + 1)) ≤ 10 then (if x8.size + ((⟨#[48, 49, 50, 51, 52, 53, 54, 55, 56, 57]⟩ : ByteArray).extract (x22 : Int).toNat ((wrap64 (x22 + 1)) : Int).toNat).size ≤ 9223372036854775807 then (if x6.length < 8796093022208 then (impl_allTexts.l2 k x0 (x6 ++ [x8 ++ ((⟨#[48, 49, 50, 51, 52, 53, 54, 55, 56, 57]⟩ : ByteArray).extract (x22 : Int).toNat ((wrap64 (x22 + 1)) : Int).toNat)]) x8 x11 x12 x15 x16 x17 x21 (wrap64 (x22 + 1))) else (none)) else (none)) else (none)) else (none)) else (none)) else (impl_allTexts.l1 k x0 x6 x11 x12 x15 x16 (wrap64 (x17 + 1)))
end
def impl_allTexts.f (k : Nat) (a0 : Int) (a1 : Int) : Option (List ByteArray) := impl_allTexts.l0 k a0 (([(⟨#[]⟩ : ByteArray)] : List ByteArray)) a1 0
theorem impl_allTexts.mono_l : ∀ k, (∀ y0 y1 y2 y3, LeO (impl_allTexts.l0 k y0 y1 y2 y3) (impl_allTexts.l0 (k + 1) y0 y1 y2 y3)) ∧ (∀ y0 y1 y2 y3 y4 y5 y6, LeO (impl_allTexts.l1 k y0 y1 y2 y3 y4 y5 y6) (impl_allTexts.l1 (k + 1) y0 y1 y2 y3 y4 y5 y6)) ∧ (∀ y0 y1 y2 y3 y4 y5 y6 y7 y8 y9, LeO (impl_allTexts.l2 k y0 y1 y2 y3 y4 y5 y6 y7 y8 y9) (impl_allTexts.l2 (k + 1) y0 y1 y2 y3 y4 y5 y6 y7 y8 y9))
 | 0 => ⟨by intros; intro r h; simp [impl_allTexts.l0] at h, by intros; intro r h; simp [impl_allTexts.l1] at h, by intros; intro r h; simp [impl_allTexts.l2] at h⟩
 | k + 1 => by
  obtain ⟨ih0, ih1, ih2⟩ := impl_allTexts.mono_l k
  refine ⟨?_, ?_, ?_⟩
  ·
   intro y0 y1 y2 y3
   unfold impl_allTexts.l0
   repeat' first
   | (with_reducible exact ih0 _ _ _ _)
   | (with_reducible exact ih1 _ _ _ _ _ _ _)
   | (with_reducible exact ih2 _ _ _ _ _ _ _ _ _ _)
   | (with_reducible exact LeO.refl _)
   | (with_reducible exact LeO.none _)
   | (with_reducible refine LeO.ite ?_ ?_)
   | (with_reducible refine LeO.bind ?_ (fun _ => ?_))
   | exact ih0 _ _ _ _
   | exact ih1 _ _ _ _ _ _ _
   | exact ih2 _ _ _ _ _ _ _ _ _ _
   | exact LeO.none _
   | refine LeO.ite ?_ ?_
   | refine LeO.bind ?_ (fun _ => ?_)
  ·
   intro y0 y1 y2 y3 y4 y5 y6
   unfold impl_allTexts.l1
   repeat' first
   | (with_reducible exact ih0 _ _ _ _)
   | (with_reducible exact ih1 _ _ _ _ _ _ _)
   | (with_reducible exact ih2 _ _ _ _ _ _ _ _ _ _)
   | (with_reducible exact LeO.refl _)
   | (with_reducible exact LeO.none _)
   | (with_reducible refine LeO.ite ?_ ?_)
   | (with_reducible refine LeO.bind ?_ (fun _ => ?_))
   | exact ih0 _ _ _ _
   | exact ih1 _ _ _ _ _ _ _
   | exact ih2 _ _ _ _ _ _ _ _ _ _
   | exact LeO.none _
   | refine LeO.ite ?_ ?_
   | refine LeO.bind ?_ (fun _ => ?_)
  ·
   intro y0 y1 y2 y3 y4 y5 y6 y7 y8 y9
   unfold impl_allTexts.l2
   repeat' first
   | (with_reducible exact ih0 _ _ _ _)
   | (with_reducible exact ih1 _ _ _ _ _ _ _)
   | (with_reducible exact ih2 _ _ _ _ _ _ _ _ _ _)
   | (with_reducible exact LeO.refl _)
   | (with_reducible exact LeO.none _)
   | (with_reducible refine LeO.ite ?_ ?_)
   | (with_reducible refine LeO.bind ?_ (fun _ => ?_))
   | exact ih0 _ _ _ _
   | exact ih1 _ _ _ _ _ _ _
   | exact ih2 _ _ _ _ _ _ _ _ _ _
   | exact LeO.none _
   | refine LeO.ite ?_ ?_
   | refine LeO.bind ?_ (fun _ => ?_)
theorem impl_allTexts.mono : ∀ y0 y1 k, LeO (impl_allTexts.f k y0 y1) (impl_allTexts.f (k + 1) y0 y1) := by
 intro y0 y1 k
 obtain ⟨ih0, ih1, ih2⟩ := impl_allTexts.mono_l k
 unfold impl_allTexts.f
 repeat' first
   | (with_reducible exact ih0 _ _ _ _)
   | (with_reducible exact ih1 _ _ _ _ _ _ _)
   | (with_reducible exact ih2 _ _ _ _ _ _ _ _ _ _)
   | (with_reducible exact LeO.refl _)
   | (with_reducible exact LeO.none _)
   | (with_reducible refine LeO.ite ?_ ?_)
   | (with_reducible refine LeO.bind ?_ (fun _ => ?_))
   | exact ih0 _ _ _ _
   | exact ih1 _ _ _ _ _ _ _
   | exact ih2 _ _ _ _ _ _ _ _ _ _
   | exact LeO.none _
   | refine LeO.ite ?_ ?_
   | refine LeO.bind ?_ (fun _ => ?_)
set_option maxHeartbeats 8000000 in
set_option maxRecDepth 100000 in
theorem impl_allTexts.calls (k : Nat) (a0 : Int) (a1 : Int) (r : List ByteArray) (w : World) (h : impl_allTexts.f k a0 a1 = some r) :
  Calls Tryd.prog 71 #[.int .i64 a0, .int .i64 a1] w fun e w' => ∃ v0_ : Value, e = .returned (v0_) ∧ Kd.R Kd.string 9 w' w.heap.size (fun _ => True) v0_ r ∧ Below w.heap.size w w' := by
 have HB := Aside0.mk (Below.refl w.heap.size w)
 have H : (impl_allTexts.l0 k a0 (([(⟨#[]⟩ : ByteArray)] : List ByteArray)) a1 0) = some r := h
 clear h
 obtain ⟨y101, hy101⟩ : ∃ y_ : List ByteArray, y_ = (([(⟨#[]⟩ : ByteArray)] : List ByteArray)) := ⟨_, rfl⟩
 replace H : (impl_allTexts.l0 k a0 y101 a1 0) = some r := by first | (rw [hy101]; with_reducible exact H) | (have H2_ := (Option.bind_some _ _).symm.trans H; rw [hy101]; with_reducible exact H2_) | (have H2_ := (Option.bind_some _ _).symm.trans H; with_reducible exact H2_) | with_reducible exact H | (rw [hy101]; exact H) | exact H
 have Ny101 := Aside0.mk hy101
 clear hy101
 have H' := Aside0.mk H
 clear H
 go_enter Tryd.func71, Tryd.ntmps71
 go_wp2_with (first | ((with_reducible refine gate_dst (N := 10) rfl ?_); refine Kd.R_lit Kd.string _ 9 ?hg (N := 10) ?hd (xs := ([(⟨#[]⟩ : ByteArray)] : List ByteArray)) (inner := [.string (⟨#[]⟩ : ByteArray)]) (ok := fun _ => True) (okp := fun _ => True) ?hr ?hp (fun _ hk => hk) trivial (Below.refl _ _) (Nat.le_refl _) (by simp) ?_; (case hd => rfl); (case hg => rfl); (case hr => first | (go_simp; done) | (go_simp; rfl)); (case hp => exact (Reps.one (show Kd.M Kd.string _ _ _ (⟨#[]⟩ : ByteArray) [.string (⟨#[]⟩ : ByteArray)] from rfl) (Reps.none _ _))); intro v102 w3 ho4 hb hg_ hnew_; clear hg_ hnew_; (first | rw [← Ny101.out] at ho4 | (simp only [Int.reduceToNat] at ho4; rw [← Ny101.out] at ho4)); have n0_ := Aside0.mk (Kd.R_lower ho4 (below_size (by repeat (first | (with_reducible first | exact HB.out | apply below_alloc | apply pw_below_drewN | apply below_drew1) | exact HB.out)))); have n1_ := Aside0.mk (below_step (by repeat (first | (with_reducible first | exact HB.out | apply below_alloc | apply pw_below_drewN | apply below_drew1) | exact HB.out)) hb); clear HB; have HO103 := n0_; have HB := n1_; clear n0_ n1_; clear hb ho4))
 go_loopg [5, 12] k (fun kq v5 v12 w' => ∃ (x5_1 : List ByteArray) (x12_1 : Int), v12 = .int .i64 x12_1 ∧ Aside0 (impl_allTexts.l0 kq a0 x5_1 a1 x12_1 = some r) ∧ Aside0 (kq ≤ k) ∧ Aside0 (Kd.R Kd.string 9 w' w.heap.size (fun _ => True) v5 x5_1) ∧ Aside0 (Below w.heap.size w w'))
 case atStart => exact ⟨(y101), (0), (by first | rfl | (simp; done) | (simp [*]; done)), H', ⟨Nat.le_refl _⟩, ⟨by (with_reducible repeat (first | apply Kd.R_alloc | apply Kd.R_drewN | apply Kd.R_drew)); exact HO103.out⟩, ⟨by repeat (first | (with_reducible first | exact HB.out | apply below_alloc | apply pw_below_drewN | apply below_drew1) | exact HB.out)⟩⟩
 case round =>
  clear H'
  try clear p2
  obtain ⟨x5_1, x12_1, rfl, HA, HK1, HO_5, HB⟩ := hrel
  cases gk with
  | zero => exact absurd HA.out (by simp [impl_allTexts.l0])
  | succ k1 =>
   have H := HA.out
   clear HA
   simp only [impl_allTexts.l0] at H
   by_cases c5 : x12_1 < a1
   ·
    rw [if_pos c5] at H
    have c5b0 : decide (x12_1 < a1) = true := decide_eq_true c5
    clear c5
    obtain ⟨y104, hy104⟩ : ∃ y_ : List ByteArray, y_ = (([] : List ByteArray)) := ⟨_, rfl⟩
    replace H : (impl_allTexts.l1 k1 a0 y104 a1 x12_1 x5_1 (x5_1.length : Int) 0) = some r := by first | (rw [hy104]; with_reducible exact H) | (have H2_ := (Option.bind_some _ _).symm.trans H; rw [hy104]; with_reducible exact H2_) | (have H2_ := (Option.bind_some _ _).symm.trans H; with_reducible exact H2_) | with_reducible exact H | (rw [hy104]; exact H) | exact H
    have Ny104 := Aside0.mk hy104
    clear hy104
    have H' := Aside0.mk H
    clear H
    go_wp2_with (first | ((with_reducible refine gate_dst (N := 14) rfl ?_); refine Kd.R_lit Kd.string _ 9 ?hg (N := 14) ?hd (xs := ([] : List ByteArray)) (inner := []) (ok := fun _ => True) (okp := fun _ => True) ?hr ?hp (fun _ hk => hk) trivial (Below.refl _ _) (Nat.le_refl _) (by simp) ?_; (case hd => rfl); (case hg => rfl); (case hr => first | (go_simp; done) | (go_simp; rfl)); (case hp => exact (Reps.none _ _)); intro v105 w6 ho7 hb hg_ hnew_; clear hg_ hnew_; (first | rw [← Ny104.out] at ho7 | (simp only [Int.reduceToNat] at ho7; rw [← Ny104.out] at ho7)); have n0_ := Aside0.mk (Kd.R_elder' (by (with_reducible repeat (first | apply Kd.R_alloc | apply Kd.R_drewN | apply Kd.R_drew)); exact HO_5.out) (Kd.R_base ho7) hb); have n1_ := Aside0.mk (Kd.R_lower (Kd.R_new' ho7 (Kd.R_lt (by (with_reducible repeat (first | apply Kd.R_alloc | apply Kd.R_drewN | apply Kd.R_drew)); exact HO_5.out))) (below_size (by repeat (first | (with_reducible first | exact HB.out | apply below_alloc | apply pw_below_drewN | apply below_drew1) | exact HB.out)))); have n2_ := Aside0.mk (below_step (by repeat (first | (with_reducible first | exact HB.out | apply below_alloc | apply pw_below_drewN | apply below_drew1) | exact HB.out)) hb); clear HO_5; clear HB; have HO_5 := n0_; have HO106 := n1_; have HB := n2_; clear n0_ n1_ n2_; clear hb ho7; obtain ⟨Ao8, co8, eo8⟩ := Kd.R_slice HO_5.out; subst eo8))
    go_loopg [6, 17] k1 (fun kq v6 v17 w' => ∃ (x6_2 : List ByteArray) (x17_2 : Int), v17 = .int .i64 x17_2 ∧ Aside0 (impl_allTexts.l1 kq a0 x6_2 a1 x12_1 x5_1 (x5_1.length : Int) x17_2 = some r) ∧ Aside0 (kq ≤ k1) ∧ Aside0 (Kd.R Kd.string 9 w' w.heap.size (fun k_ => some k_ ≠ ((.slice Ao8 x5_1.length co8) : Value).ownBlock) v6 x6_2) ∧ Aside0 (Kd.R Kd.string 9 w' w.heap.size (fun k_ => some k_ ≠ (v6 : Value).ownBlock) (.slice Ao8 x5_1.length co8) x5_1) ∧ Aside0 (Below w.heap.size w w'))
    case atStart => exact ⟨(y104), (0), (by first | rfl | (simp; done) | (simp [*]; done)), H', ⟨Nat.le_refl _⟩, ⟨by (with_reducible repeat (first | apply Kd.R_alloc | apply Kd.R_drewN | apply Kd.R_drew)); exact Kd.R_mono HO106.out (fun _ hk => hk.2)⟩, ⟨by (with_reducible repeat (first | apply Kd.R_alloc | apply Kd.R_drewN | apply Kd.R_drew)); exact Kd.R_mono HO_5.out (fun _ hk => hk.2)⟩, ⟨by repeat (first | (with_reducible first | exact HB.out | apply below_alloc | apply pw_below_drewN | apply below_drew1) | exact HB.out)⟩⟩
    case round =>
     clear H'
     try clear p2
     try clear c5
     try clear c5b0
     try clear c7
     try clear p2
     obtain ⟨x6_2, x17_2, rfl, HA, HK2, HO_6, HO_15, HB⟩ := hrel
     cases gk with
     | zero => exact absurd HA.out (by simp [impl_allTexts.l1])
     | succ k2 =>
      have H := HA.out
      clear HA
      simp only [impl_allTexts.l1] at H
      by_cases c9 : x17_2 < (x5_1.length : Int)
      ·
       rw [if_pos c9] at H
       have c9b0 : decide (x17_2 < (x5_1.length : Int)) = true := decide_eq_true c9
       clear c9
       by_cases c10 : 0 ≤ x17_2
       ·
        rw [if_pos c10] at H
        have c10b0 : decide (0 ≤ x17_2) = true := decide_eq_true c10
        clear c10
        by_cases c11 : x17_2 < (x5_1.length : Int)
        ·
         rw [if_pos c11] at H
         have c11b0 : decide (x17_2 < (x5_1.length : Int)) = true := decide_eq_true c11
         clear c11
         have H' := Aside0.mk H
         clear H
         have p107 : 0 ≤ (x17_2 : Int) := of_decide_eq_true (by first | (with_reducible assumption) | assumption)
         have q107 : x17_2 < (x5_1.length : Int) := of_decide_eq_true (by first | (with_reducible assumption) | assumption)
         obtain ⟨ad107, e107, hx107_0⟩ := Kd.at_string (Kd.R_reads' HO_15.out).2.2 x17_2 p107 q107
         cases e107
         replace p107 := eq_true p107
         replace q107 := eq_true q107
         go_wp2
         go_loopg [6, 22] k2 (fun kq v6 v22 w' => ∃ (x6_3 : List ByteArray) (x22_3 : Int), v22 = .int .i64 x22_3 ∧ Aside0 (impl_allTexts.l2 kq a0 x6_3 (rdOf ByteArray.empty x5_1 x17_2) a1 x12_1 x5_1 (x5_1.length : Int) x17_2 a0 x22_3 = some r) ∧ Aside0 (kq ≤ k2) ∧ Aside0 (Kd.R Kd.string 9 w' w.heap.size (fun k_ => some k_ ≠ ((.slice (some ad107) x5_1.length co8) : Value).ownBlock) v6 x6_3) ∧ Aside0 (Kd.R Kd.string 9 w' w.heap.size (fun k_ => some k_ ≠ (v6 : Value).ownBlock) (.slice (some ad107) x5_1.length co8) x5_1) ∧ Aside0 (Below w.heap.size w w'))
         case atStart => exact ⟨(x6_2), (0), (by first | rfl | (simp; done) | (simp [*]; done)), H', ⟨Nat.le_refl _⟩, ⟨by (with_reducible repeat (first | apply Kd.R_alloc | apply Kd.R_drewN | apply Kd.R_drew)); exact HO_6.out⟩, ⟨by (with_reducible repeat (first | apply Kd.R_alloc | apply Kd.R_drewN | apply Kd.R_drew)); exact HO_15.out⟩, ⟨by repeat (first | (with_reducible first | exact HB.out | apply below_alloc | apply pw_below_drewN | apply below_drew1) | exact HB.out)⟩⟩
         case round =>
          clear H'
          try clear c1
          try clear p1
          try clear q1
          try clear hx1
          try clear p2
          try clear c5
          try clear c5b0
          try clear c7
          try clear c9
          try clear c9b0
          try clear c10
          try clear c10b0
          try clear p10
          try clear q10
          try clear hx10
          try clear c11
          try clear c11b0
          try clear hx107_0
          try clear p107
          try clear p2
          try clear q107
          obtain ⟨x6_3, x22_3, rfl, HA, HK3, HO_6, HO_15, HB⟩ := hrel
          cases gk with
          | zero => exact absurd HA.out (by simp [impl_allTexts.l2])
          | succ k3 =>
           have H := HA.out
           clear HA
           simp only [impl_allTexts.l2] at H
           by_cases c12 : x22_3 < a0
           ·
            rw [if_pos c12] at H
            have c12b0 : decide (x22_3 < a0) = true := decide_eq_true c12
            clear c12
            by_cases c13 : 0 ≤ x22_3
            ·
             rw [if_pos c13] at H
             have c13b0 := eq_true c13
             have c13b1 : decide (0 ≤ x22_3) = true := decide_eq_true c13
             clear c13
             by_cases c14 : x22_3 ≤ (wrap64 (x22_3 + 1))
             ·
              rw [if_pos c14] at H
              have c14b0 := eq_true c14
              have c14b1 : decide (x22_3 ≤ (wrap64 (x22_3 + 1))) = true := decide_eq_true c14
              by_cases c15 : (wrap64 (x22_3 + 1)) ≤ 10
              ·
               rw [if_pos c15] at H
               have c15b0 := eq_true c15
               have c15b1 : decide ((wrap64 (x22_3 + 1)) ≤ 10) = true := decide_eq_true c15
               by_cases c16 : (rdOf ByteArray.empty x5_1 x17_2).size + ((⟨#[48, 49, 50, 51, 52, 53, 54, 55, 56, 57]⟩ : ByteArray).extract (x22_3 : Int).toNat ((wrap64 (x22_3 + 1)) : Int).toNat).size ≤ 9223372036854775807
               ·
                rw [if_pos c16] at H
                have c16b0 := eq_true c16
                have c16b1 : decide ((rdOf ByteArray.empty x5_1 x17_2).size + ((⟨#[48, 49, 50, 51, 52, 53, 54, 55, 56, 57]⟩ : ByteArray).extract (x22_3 : Int).toNat ((wrap64 (x22_3 + 1)) : Int).toNat).size ≤ 9223372036854775807) = true := decide_eq_true c16
                try have c16b2 : (9223372036854775807 < (rdOf ByteArray.empty x5_1 x17_2).size + ((⟨#[48, 49, 50, 51, 52, 53, 54, 55, 56, 57]⟩ : ByteArray).extract (x22_3 : Int).toNat ((wrap64 (x22_3 + 1)) : Int).toNat).size) = False := eq_false (Nat.not_lt.2 c16)
                by_cases c17 : x6_3.length < 8796093022208
                ·
                 rw [if_pos c17] at H
                 have LMc17 := Aside0.mk c17
                 clear c17
                 obtain ⟨y108, hy108⟩ : ∃ y_ : List ByteArray, y_ = (x6_3 ++ [(rdOf ByteArray.empty x5_1 x17_2) ++ ((⟨#[48, 49, 50, 51, 52, 53, 54, 55, 56, 57]⟩ : ByteArray).extract (x22_3 : Int).toNat ((wrap64 (x22_3 + 1)) : Int).toNat)]) := ⟨_, rfl⟩
                 replace H : (impl_allTexts.l2 k3 a0 y108 (rdOf ByteArray.empty x5_1 x17_2) a1 x12_1 x5_1 (x5_1.length : Int) x17_2 a0 (wrap64 (x22_3 + 1))) = some r := by first | (rw [hy108]; with_reducible exact H) | (have H2_ := (Option.bind_some _ _).symm.trans H; rw [hy108]; with_reducible exact H2_) | (have H2_ := (Option.bind_some _ _).symm.trans H; with_reducible exact H2_) | with_reducible exact H | (rw [hy108]; exact H) | exact H
                 have Ny108 := Aside0.mk hy108
                 clear hy108
                 have H' := Aside0.mk H
                 clear H
                 go_wp2_with (first | ((with_reducible refine gate_builtin (b := .append) (xs := #[.tmp 25, .tmp 32]) rfl ?_); at_builtin; refine Kd.R_append Kd.string (w0 := w) w.heap.size rfl (.tmp 25) (.tmp 32) 39 9 (.string ⟨#[]⟩) 16 rfl Tryd.underlying39 info9 rfl (by decide) (by omega) u6 x6_3 ((rdOf ByteArray.empty x5_1 x17_2) ++ ((⟨#[48, 49, 50, 51, 52, 53, 54, 55, 56, 57]⟩ : ByteArray).extract (x22_3 : Int).toNat ((wrap64 (x22_3 + 1)) : Int).toNat)) [.string ((rdOf ByteArray.empty x5_1 x17_2) ++ ((⟨#[48, 49, 50, 51, 52, 53, 54, 55, 56, 57]⟩ : ByteArray).extract (x22_3 : Int).toNat ((wrap64 (x22_3 + 1)) : Int).toNat))] (fun k_ => some k_ ≠ (.slice (some ad107) x5_1.length co8 : Value).ownBlock) (fun _ => False) rfl rfl ?aP (fun _ hk => hk.elim) ?aF ?aO ?aB ?aS ?aL ?_; (case aP => exact rfl); (case aB => exact (by repeat (first | (with_reducible first | exact HB.out | apply below_alloc | apply pw_below_drewN | apply below_drew1) | exact HB.out))); (case aF => exact (fun k_ hk => Kd.fresh' (Kd.R_lt (by (with_reducible repeat (first | apply Kd.R_alloc | apply Kd.R_drewN | apply Kd.R_drew)); exact HO_15.out)) k_ hk)); (case aO => exact (by (with_reducible repeat (first | apply Kd.R_alloc | apply Kd.R_drewN | apply Kd.R_drew)); exact HO_6.out)); (case aS => exact (below_size (by repeat (first | (with_reducible first | exact HB.out | apply below_alloc | apply pw_below_drewN | apply below_drew1) | exact HB.out)))); (case aL => have := LMc17.out; omega); intro v109 w18 ho hb hg hat; rw [← Ny108.out] at ho; have n0_ := Aside0.mk (Kd.R_after (ok := (fun _ => True)) (by (with_reducible repeat (first | apply Kd.R_alloc | apply Kd.R_drewN | apply Kd.R_drew)); exact Kd.R_mono HO_15.out (fun _ hk => ⟨trivial, hk⟩)) hg hat); have n1_ := Aside0.mk (hb); have n2_ := Aside0.mk (ho); clear HO_15; clear HB; clear HO_6; have HO_15 := n0_; have HB := n1_; have HO110 := n2_; clear n0_ n1_ n2_; clear ho hb hg hat))
                 go_roundg k3
                 case measure => have := HK1.out; have := HK2.out; have := HK3.out; omega
                 case rel => exact ⟨(y108), (wrap64 (x22_3 + 1)), (by first | rfl | (simp; done) | (simp [*]; done)), H', ⟨by have := HK1.out; have := HK2.out; have := HK3.out; omega⟩, ⟨by (with_reducible repeat (first | apply Kd.R_alloc | apply Kd.R_drewN | apply Kd.R_drew)); exact HO110.out⟩, ⟨by (with_reducible repeat (first | apply Kd.R_alloc | apply Kd.R_drewN | apply Kd.R_drew)); exact Kd.R_mono HO_15.out (fun _ hk => hk.2)⟩, ⟨by repeat (first | (with_reducible first | exact HB.out | apply below_alloc | apply pw_below_drewN | apply below_drew1) | exact HB.out)⟩⟩
                ·
                 rw [if_neg c17] at H
                 exact absurd H (by simp)
               ·
                rw [if_neg c16] at H
                exact absurd H (by simp)
              ·
               rw [if_neg c15] at H
               exact absurd H (by simp)
             ·
              rw [if_neg c14] at H
              exact absurd H (by simp)
            ·
             rw [if_neg c13] at H
             exact absurd H (by simp)
           ·
            rw [if_neg c12] at H
            have c12b0 : decide (x22_3 < a0) = false := decide_eq_false c12
            clear c12
            have H' := Aside0.mk H
            clear H
            go_wp2
            go_roundg k3
            case measure => have := HK1.out; have := HK2.out; have := HK3.out; omega
            case rel => exact ⟨(x6_3), (wrap64 (x17_2 + 1)), (by first | rfl | (simp; done) | (simp [*]; done)), H', ⟨by have := HK1.out; have := HK2.out; have := HK3.out; omega⟩, ⟨by (with_reducible repeat (first | apply Kd.R_alloc | apply Kd.R_drewN | apply Kd.R_drew)); exact HO_6.out⟩, ⟨by (with_reducible repeat (first | apply Kd.R_alloc | apply Kd.R_drewN | apply Kd.R_drew)); exact HO_15.out⟩, ⟨by repeat (first | (with_reducible first | exact HB.out | apply below_alloc | apply pw_below_drewN | apply below_drew1) | exact HB.out)⟩⟩
        ·
         rw [if_neg c11] at H
         exact absurd H (by simp)
       ·
        rw [if_neg c10] at H
        exact absurd H (by simp)
      ·
       rw [if_neg c9] at H
       have c9b0 : decide (x17_2 < (x5_1.length : Int)) = false := decide_eq_false c9
       clear c9
       have H' := Aside0.mk H
       clear H
       go_wp2
       go_roundg k2
       case measure => have := HK1.out; have := HK2.out; omega
       case rel => exact ⟨(x6_2), (wrap64 (x12_1 + 1)), (by first | rfl | (simp; done) | (simp [*]; done)), H', ⟨by have := HK1.out; have := HK2.out; omega⟩, ⟨by (with_reducible repeat (first | apply Kd.R_alloc | apply Kd.R_drewN | apply Kd.R_drew)); exact Kd.R_mono HO_6.out (fun _ hk => trivial)⟩, ⟨by repeat (first | (with_reducible first | exact HB.out | apply below_alloc | apply pw_below_drewN | apply below_drew1) | exact HB.out)⟩⟩
   ·
    rw [if_neg c5] at H
    have c5b0 : decide (x12_1 < a1) = false := decide_eq_false c5
    clear c5
    obtain rfl := Option.some.inj H
    go_wp2
    go_ret
    exact ⟨_, by first | rfl | (simp [errW_none, errW_some] <;> rfl) | (simp [*, errW_none, errW_some] <;> rfl), by (with_reducible repeat (first | apply Kd.R_alloc | apply Kd.R_drewN | apply Kd.R_drew)); exact HO_5.out, by repeat (first | (with_reducible first | exact HB.out | apply below_alloc | apply pw_below_drewN | apply below_drew1) | exact HB.out)⟩

end Go.Proofs.YtjnkfnabbekinaaDoor.P

-- printed by xprint.py
namespace Go.Proofs.YtjnkfnabbekinaaDoor.P
open Go.RowKit Go.Proofs.YtjnkfnabbekinaaDoorW.PrintWords Go.Proofs.YtjnkfnabbekinaaDoorW.PrintLast Go.Proofs.YtjnkfnabbekinaaDoorW.PrintMore
attribute [local go_sem] max2_int min2_int max_two min_two max_three min_three max_four min_four   -- for this text's walks alone
set_option linter.unusedVariables false
set_option linter.unusedSimpArgs false

/-! ### impl_in: function 47 -/
def impl_in.f (a0 : Int) (a1 : Int) (a2 : Int) : Option (Bool) := if a0 ≥ a1 then (some (decide (a0 ≤ a2))) else (some false)
set_option maxHeartbeats 8000000 in
set_option maxRecDepth 100000 in
theorem impl_in.calls (a0 : Int) (a1 : Int) (a2 : Int) (r : Bool) (w : World) (h : impl_in.f a0 a1 a2 = some r) :
  Calls Tryd.prog 47 #[.int .i64 a0, .int .i64 a1, .int .i64 a2] w fun e w' => e = .returned (.bool r) ∧ Drawn0 w w' := by
 have H : (if a0 ≥ a1 then (some (decide (a0 ≤ a2))) else (some false)) = some r := h
 clear h
 by_cases c4 : a0 ≥ a1
 ·
  rw [if_pos c4] at H
  have c4b0 : decide (a1 ≤ a0) = true := decide_eq_true c4
  clear c4
  obtain rfl := Option.some.inj H
  go_enter Tryd.func47, Tryd.ntmps47
  go_wp2
  go_ret
  exact ⟨by first | rfl | (simp; done) | (simp [*]; done), by repeat (first | exact Drawn0.refl _ | apply Drawn0.step)⟩
 ·
  rw [if_neg c4] at H
  have c4b0 : decide (a1 ≤ a0) = false := decide_eq_false c4
  clear c4
  obtain rfl := Option.some.inj H
  go_enter Tryd.func47, Tryd.ntmps47
  go_wp2
  go_ret
  exact ⟨by first | rfl | (simp; done) | (simp [*]; done), by repeat (first | exact Drawn0.refl _ | apply Drawn0.step)⟩

end Go.Proofs.YtjnkfnabbekinaaDoor.P

-- printed by xprint.py
namespace Go.Proofs.YtjnkfnabbekinaaDoor.P
open Go.RowKit Go.Proofs.YtjnkfnabbekinaaDoorW.PrintWords Go.Proofs.YtjnkfnabbekinaaDoorW.PrintLast Go.Proofs.YtjnkfnabbekinaaDoorW.PrintMore
attribute [local go_sem] max2_int min2_int max_two min_two max_three min_three max_four min_four   -- for this text's walks alone
set_option linter.unusedVariables false
set_option linter.unusedSimpArgs false

/-! ### strings_Trim: function 85 -/
def strings_Trim.f (a0 : ByteArray) (a1 : ByteArray) : Option ByteArray :=
 if a0.size ≤ 9223372036854775807 ∧ a1.size < 4294967281 ∧ a1.data.toList.all (fun b => decide (b.toNat < 128)) = true then some ⟨(Lib.trimS a0.data.toList a1.data.toList).toArray⟩ else none
end Go.Proofs.YtjnkfnabbekinaaDoor.P
namespace Go.Proofs
open Go.Shelf
def YtjnkfnabbekinaaDoorlaysTrim_ren : Go.Shelf.Ren := ⟨fun | 160 => 85 | 232 => 96 | 231 => 95 | 227 => 97 | 234 => 99 | 233 => 98 | 236 => 101 | 235 => 100 | 228 => 104 | 271 => 107 | 151 => 106 | 197 => 105 | 120 => 110 | 152 => 109 | 260 => 108 | 137 => 111 | 119 => 112 | 224 => 88 | 225 => 87 | 217 => 86 | 266 => 102 | n => n, fun | 9 => 9 | 4 => 4 | 3 => 3 | 5 => 5 | 117 => 89 | 116 => 88 | 0 => 0 | 124 => 92 | 21 => 21 | 105 => 97 | 46 => 83 | 119 => 101 | 139 => 104 | 138 => 103 | n => n, fun | 3 => 1 | 4 => 2 | n => n⟩
theorem YtjnkfnabbekinaaDoorlaysTrim : Go.Proofs.Lays.n160 Tryd.prog YtjnkfnabbekinaaDoorlaysTrim_ren := {
  mixed := by kernel_rfl
  f119 := Tryd.func112.trans (congrArg some (by kernel_rfl))
  f120 := Tryd.func110.trans (congrArg some (by kernel_rfl))
  f137 := Tryd.func111.trans (congrArg some (by kernel_rfl))
  f151 := Tryd.func106.trans (congrArg some (by kernel_rfl))
  f152 := Tryd.func109.trans (congrArg some (by kernel_rfl))
  f160 := Tryd.func85.trans (congrArg some (by kernel_rfl))
  f197 := Tryd.func105.trans (congrArg some (by kernel_rfl))
  f217 := Tryd.func86.trans (congrArg some (by kernel_rfl))
  f224 := Tryd.func88.trans (congrArg some (by kernel_rfl))
  f225 := Tryd.func87.trans (congrArg some (by kernel_rfl))
  f227 := Tryd.func97.trans (congrArg some (by kernel_rfl))
  f228 := Tryd.func104.trans (congrArg some (by kernel_rfl))
  f231 := Tryd.func95.trans (congrArg some (by kernel_rfl))
  f232 := Tryd.func96.trans (congrArg some (by kernel_rfl))
  f233 := Tryd.func98.trans (congrArg some (by kernel_rfl))
  f234 := Tryd.func99.trans (congrArg some (by kernel_rfl))
  f235 := Tryd.func100.trans (congrArg some (by kernel_rfl))
  f236 := Tryd.func101.trans (congrArg some (by kernel_rfl))
  f260 := Tryd.func108.trans (congrArg some (by kernel_rfl))
  f266 := Tryd.func102.trans (congrArg some (by kernel_rfl))
  f271 := Tryd.func107.trans (congrArg some (by kernel_rfl))
  t0 := Tryd.underlying0
  a0 := Tryd.isAgg0
  z0 := Tryd.sizeOf0
  v0 := Tryd.zeroValue0
  t3 := Tryd.underlying3
  a3 := Tryd.isAgg3
  z3 := Tryd.sizeOf3
  v3 := Tryd.zeroValue3
  t4 := Tryd.underlying4
  a4 := Tryd.isAgg4
  z4 := Tryd.sizeOf4
  v4 := Tryd.zeroValue4
  t5 := Tryd.underlying5
  a5 := Tryd.isAgg5
  z5 := Tryd.sizeOf5
  v5 := Tryd.zeroValue5
  t9 := Tryd.underlying9
  a9 := Tryd.isAgg9
  z9 := Tryd.sizeOf9
  v9 := Tryd.zeroValue9
  t21 := Tryd.underlying21
  a21 := Tryd.isAgg21
  z21 := Tryd.sizeOf21
  v21 := Tryd.zeroValue21
  t46 := Tryd.underlying83
  a46 := Tryd.isAgg83
  z46 := Tryd.sizeOf83
  v46 := Tryd.zeroValue83
  t105 := Tryd.underlying97
  a105 := Tryd.isAgg97
  z105 := Tryd.sizeOf97
  v105 := Tryd.zeroValue97
  t116 := Tryd.underlying88
  a116 := Tryd.isAgg88
  z116 := Tryd.sizeOf88
  t117 := Tryd.underlying89
  a117 := Tryd.isAgg89
  z117 := Tryd.sizeOf89
  v117 := Tryd.zeroValue89
  t119 := Tryd.underlying101
  a119 := Tryd.isAgg101
  z119 := Tryd.sizeOf101
  t124 := Tryd.underlying92
  a124 := Tryd.isAgg92
  z124 := Tryd.sizeOf92
  v124 := Tryd.zeroValue92
  t138 := Tryd.underlying103
  a138 := Tryd.isAgg103
  z138 := Tryd.sizeOf103
  v138 := Tryd.zeroValue103
  t139 := Tryd.underlying104
  a139 := Tryd.isAgg104
  z139 := Tryd.sizeOf104
  v139 := Tryd.zeroValue104
  g3 := by kernel_rfl
  g4 := by kernel_rfl }
end Go.Proofs
namespace Go.Proofs.YtjnkfnabbekinaaDoor.P
open Go.RowKit Go.Proofs.YtjnkfnabbekinaaDoorW.PrintWords Go.Proofs.YtjnkfnabbekinaaDoorW.PrintLast Go.Proofs.YtjnkfnabbekinaaDoorW.PrintMore
theorem strings_Trim.calls (a0 : ByteArray) (a1 : ByteArray) (r : ByteArray) (w : World) (h : strings_Trim.f a0 a1 = some r) :
  Calls Tryd.prog 85 #[.string a0, .string a1] w fun e w' => e = .returned (.string r) ∧ Below w.heap.size w w' := by
 unfold strings_Trim.f at h
 split at h
 ·
  rename_i c
  obtain rfl := Option.some.inj h
  have hcon := Any.strings_Trim_laid YtjnkfnabbekinaaDoorlaysTrim (by kernel_rfl) a0 a1 w c.1 c.2.1 (ascii_of_all c.2.2)
  change Calls Tryd.prog 85 _ _ _ at hcon
  exact hcon
 ·
  cases h

end Go.Proofs.YtjnkfnabbekinaaDoor.P

-- printed by xprint.py
namespace Go.Proofs.YtjnkfnabbekinaaDoor.P
open Go.RowKit Go.Proofs.YtjnkfnabbekinaaDoorW.PrintWords Go.Proofs.YtjnkfnabbekinaaDoorW.PrintLast Go.Proofs.YtjnkfnabbekinaaDoorW.PrintMore
attribute [local go_sem] max2_int min2_int max_two min_two max_three min_three max_four min_four   -- for this text's walks alone
set_option linter.unusedVariables false
set_option linter.unusedSimpArgs false

/-! ### impl_over: function 74 -/
def impl_over.f (a0 : ByteArray) (a1 : ByteArray) : Option (Bool) := (strings_Trim.f a0 a1).bind fun t101 => (some (t101.toList == ([] : List UInt8)))
set_option maxHeartbeats 8000000 in
set_option maxRecDepth 100000 in
theorem impl_over.calls (a0 : ByteArray) (a1 : ByteArray) (r : Bool) (w : World) (h : impl_over.f a0 a1 = some r) :
  Calls Tryd.prog 74 #[.string a0, .string a1] w fun e w' => e = .returned (.bool r) ∧ Below w.heap.size w w' := by
 have HB := Aside0.mk (Below.refl w.heap.size w)
 have H : ((strings_Trim.f a0 a1).bind fun t101 => (some (t101.toList == ([] : List UInt8)))) = some r := h
 clear h
 replace H := Option.bind_eq_some_iff.mp H
 obtain ⟨t101, A30, H⟩ := H
 replace H : (some (t101.toList == ([] : List UInt8))) = some r := H
 have A3 := Aside0.mk A30
 clear A30
 obtain rfl := Option.some.inj H
 go_enter Tryd.func74, Tryd.ntmps74
 go_wp2_with (first | ((with_reducible refine gate_callee (f := 85) rfl ?_); refine goesL_ (some 7) rfl rfl Tryd.func85 (by kernel_rfl) rfl #[.string a0, .string a1] rfl (by (try simp only [List.map_toArray, List.map_cons, List.map_nil]); first | done | rfl | (simp only [List.length_drop, List.length_take]; rfl)) ?_; (with_reducible refine (strings_Trim.calls a0 a1 t101 _ A3.out).mono ?_); rintro e w4 ⟨rfl, hb⟩; refine ⟨_, rfl, ?_⟩; have n0_ := Aside0.mk (below_step (by repeat (first | (with_reducible first | exact HB.out | apply below_alloc | apply pw_below_drewN | apply below_drew1) | exact HB.out)) hb); clear HB; have HB := n0_; clear n0_; (try clear hb); (try clear hb2); (try clear hk); (try clear hi)))
 go_ret
 exact ⟨by first | rfl | (simp [errW_none, errW_some] <;> rfl) | (simp [*, errW_none, errW_some] <;> rfl), by repeat (first | (with_reducible first | exact HB.out | apply below_alloc | apply pw_below_drewN | apply below_drew1) | exact HB.out)⟩

end Go.Proofs.YtjnkfnabbekinaaDoor.P

-- printed by xprint.py
namespace Go.Proofs.YtjnkfnabbekinaaDoor.P
open Go.RowKit Go.Proofs.YtjnkfnabbekinaaDoorW.PrintWords Go.Proofs.YtjnkfnabbekinaaDoorW.PrintLast Go.Proofs.YtjnkfnabbekinaaDoorW.PrintMore
attribute [local go_sem] max2_int min2_int max_two min_two max_three min_three max_four min_four   -- for this text's walks alone
set_option linter.unusedVariables false
set_option linter.unusedSimpArgs false

/-! ### impl_isDigits: function 44 -/
def impl_isDigits.f (a0 : ByteArray) (a1 : Int) (a2 : Int) : Option (Bool) := (impl_in.f (a0.size : Int) a1 a2).bind fun t101 => (if t101 = true then ((impl_over.f a0 (⟨#[48, 49, 50, 51, 52, 53, 54, 55, 56, 57]⟩ : ByteArray)).bind fun t102 => (some t102)) else (some false))
set_option maxHeartbeats 8000000 in
set_option maxRecDepth 100000 in
theorem impl_isDigits.calls (a0 : ByteArray) (a1 : Int) (a2 : Int) (r : Bool) (w : World) (h : impl_isDigits.f a0 a1 a2 = some r) :
  Calls Tryd.prog 44 #[.string a0, .int .i64 a1, .int .i64 a2] w fun e w' => e = .returned (.bool r) ∧ Below w.heap.size w w' := by
 have HB := Aside0.mk (Below.refl w.heap.size w)
 have H : ((impl_in.f (a0.size : Int) a1 a2).bind fun t101 => (if t101 = true then ((impl_over.f a0 (⟨#[48, 49, 50, 51, 52, 53, 54, 55, 56, 57]⟩ : ByteArray)).bind fun t102 => (some t102)) else (some false))) = some r := h
 clear h
 replace H := Option.bind_eq_some_iff.mp H
 obtain ⟨t101, A40, H⟩ := H
 replace H : (if t101 = true then ((impl_over.f a0 (⟨#[48, 49, 50, 51, 52, 53, 54, 55, 56, 57]⟩ : ByteArray)).bind fun t102 => (some t102)) else (some false)) = some r := H
 have A4 := Aside0.mk A40
 clear A40
 by_cases c5 : t101 = true
 ·
  subst c5
  have H1 : ((impl_over.f a0 (⟨#[48, 49, 50, 51, 52, 53, 54, 55, 56, 57]⟩ : ByteArray)).bind fun t102 => (some t102)) = some r := by rw [if_pos rfl] at H; exact H
  clear H
  have H := H1
  clear H1
  replace H := Option.bind_eq_some_iff.mp H
  obtain ⟨t102, A60, H⟩ := H
  replace H : (some t102) = some r := H
  have A6 := Aside0.mk A60
  clear A60
  obtain rfl := Option.some.inj H
  go_enter Tryd.func44, Tryd.ntmps44
  go_wp2_with (first | ((with_reducible refine gate_callee (f := 47) rfl ?_); refine goesL_ (some 11) rfl rfl Tryd.func47 (by kernel_rfl) rfl #[.int .i64 (a0.size : Int), .int .i64 a1, .int .i64 a2] rfl (by (try simp only [List.map_toArray, List.map_cons, List.map_nil]); first | done | rfl | (simp only [List.length_drop, List.length_take]; rfl)) ?_; (with_reducible refine (impl_in.calls (a0.size : Int) a1 a2 true _ A4.out).mono ?_); rintro e w' ⟨rfl, ⟨nd, rfl⟩⟩; refine ⟨_, rfl, ?_⟩) | (go_at_call 74; (with_reducible refine (impl_over.calls a0 (⟨#[48, 49, 50, 51, 52, 53, 54, 55, 56, 57]⟩ : ByteArray) t102 _ A6.out).mono ?_); rintro e w7 ⟨rfl, hb⟩; have n0_ := Aside0.mk (below_step (by repeat (first | (with_reducible first | exact HB.out | apply below_alloc | apply pw_below_drewN | apply below_drew1) | exact HB.out)) hb); clear HB; have HB := n0_; clear n0_; (try clear hb); (try clear hb2); (try clear hk); (try clear hi)))
  go_ret
  exact ⟨by first | rfl | (simp [errW_none, errW_some] <;> rfl) | (simp [*, errW_none, errW_some] <;> rfl), by repeat (first | (with_reducible first | exact HB.out | apply below_alloc | apply pw_below_drewN | apply below_drew1) | exact HB.out)⟩
 ·
  replace c5 := Bool.eq_false_iff.mpr c5
  subst c5
  have H1 : (some false) = some r := by rw [if_neg (show ¬ (false = true) by decide)] at H; exact H
  clear H
  have H := H1
  clear H1
  obtain rfl := Option.some.inj H
  go_enter Tryd.func44, Tryd.ntmps44
  go_wp2_with (first | ((with_reducible refine gate_callee (f := 47) rfl ?_); refine goesL_ (some 11) rfl rfl Tryd.func47 (by kernel_rfl) rfl #[.int .i64 (a0.size : Int), .int .i64 a1, .int .i64 a2] rfl (by (try simp only [List.map_toArray, List.map_cons, List.map_nil]); first | done | rfl | (simp only [List.length_drop, List.length_take]; rfl)) ?_; (with_reducible refine (impl_in.calls (a0.size : Int) a1 a2 false _ A4.out).mono ?_); rintro e w' ⟨rfl, ⟨nd, rfl⟩⟩; refine ⟨_, rfl, ?_⟩))
  go_ret
  exact ⟨by first | rfl | (simp [errW_none, errW_some] <;> rfl) | (simp [*, errW_none, errW_some] <;> rfl), by repeat (first | (with_reducible first | exact HB.out | apply below_alloc | apply pw_below_drewN | apply below_drew1) | exact HB.out)⟩

end Go.Proofs.YtjnkfnabbekinaaDoor.P

-- printed by xprint.py
namespace Go.Proofs.YtjnkfnabbekinaaDoor.P
open Go.RowKit Go.Proofs.YtjnkfnabbekinaaDoorW.PrintWords Go.Proofs.YtjnkfnabbekinaaDoorW.PrintLast Go.Proofs.YtjnkfnabbekinaaDoorW.PrintMore
attribute [local go_sem] max2_int min2_int max_two min_two max_three min_three max_four min_four   -- for this text's walks alone
set_option linter.unusedVariables false
set_option linter.unusedSimpArgs false

/-! ### impl_pinLong: function 83 -/
def impl_pinLong.f (a0 : Int) : Option (Bool) := (impl_in.f a0 2 4).bind fun t101 => (some t101)
set_option maxHeartbeats 8000000 in
set_option maxRecDepth 100000 in
theorem impl_pinLong.calls (a0 : Int) (r : Bool) (w : World) (h : impl_pinLong.f a0 = some r) :
  Calls Tryd.prog 83 #[.int .i64 a0] w fun e w' => e = .returned (.bool r) ∧ Drawn0 w w' := by
 have H : ((impl_in.f a0 2 4).bind fun t101 => (some t101)) = some r := h
 clear h
 replace H := Option.bind_eq_some_iff.mp H
 obtain ⟨t101, A20, H⟩ := H
 replace H : (some t101) = some r := H
 have A2 := Aside0.mk A20
 clear A20
 obtain rfl := Option.some.inj H
 go_enter Tryd.func83, Tryd.ntmps83
 go_wp2_with (first | ((with_reducible refine gate_callee (f := 47) rfl ?_); refine goesL_ (some 4) rfl rfl Tryd.func47 (by kernel_rfl) rfl #[.int .i64 a0, .int .i64 2, .int .i64 4] rfl (by (try simp only [List.map_toArray, List.map_cons, List.map_nil]); first | done | rfl | (simp only [List.length_drop, List.length_take]; rfl)) ?_; (with_reducible refine (impl_in.calls a0 2 4 t101 _ A2.out).mono ?_); rintro e w' ⟨rfl, ⟨nd, rfl⟩⟩; refine ⟨_, rfl, ?_⟩))
 go_ret
 exact ⟨by first | rfl | (simp; done) | (simp [*]; done), by repeat (first | exact Drawn0.refl _ | apply Drawn0.step)⟩

end Go.Proofs.YtjnkfnabbekinaaDoor.P

-- printed by xprint.py
namespace Go.Proofs.YtjnkfnabbekinaaDoor.P
open Go.RowKit Go.Proofs.YtjnkfnabbekinaaDoorW.PrintWords Go.Proofs.YtjnkfnabbekinaaDoorW.PrintLast Go.Proofs.YtjnkfnabbekinaaDoorW.PrintMore
attribute [local go_sem] max2_int min2_int max_two min_two max_three min_three max_four min_four   -- for this text's walks alone
set_option linter.unusedVariables false
set_option linter.unusedSimpArgs false

/-! ### impl_locksOk: function 69 -/
mutual
def impl_locksOk.j0 : Nat → Int → Int → Bool → Option (Bool)
 | 0, _, _, _ => none
 | k + 1, x0, x1, x13 => if x13 = true then (some false) else (impl_locksOk.l0 k x0 1 x1 0)
def impl_locksOk.l0 : Nat → Int → Int → Int → Int → Option (Bool)
 | 0, _, _, _, _ => none
 | k + 1, x0, x5, x14, x15 => if x15 < x14 then (impl_locksOk.l0 k x0 (wrap64 (x5 * x0)) x14 (wrap64 (x15 + 1))) else (some (decide (x5 ≤ 300)))
end
def impl_locksOk.f (k : Nat) (a0 : Int) (a1 : Int) : Option (Bool) := (impl_in.f a0 1 10).bind fun t101 => (if t101 = true then ((impl_pinLong.f a1).bind fun t102 => (impl_locksOk.j0 k a0 a1 (!t102))) else (impl_locksOk.j0 k a0 a1 true))
theorem impl_locksOk.mono_l : ∀ k, (∀ y0 y1 y2, LeO (impl_locksOk.j0 k y0 y1 y2) (impl_locksOk.j0 (k + 1) y0 y1 y2)) ∧ (∀ y0 y1 y2 y3, LeO (impl_locksOk.l0 k y0 y1 y2 y3) (impl_locksOk.l0 (k + 1) y0 y1 y2 y3))
 | 0 => ⟨by intros; intro r h; simp [impl_locksOk.j0] at h, by intros; intro r h; simp [impl_locksOk.l0] at h⟩
 | k + 1 => by
  obtain ⟨ih0, ih1⟩ := impl_locksOk.mono_l k
  refine ⟨?_, ?_⟩
  ·
   intro y0 y1 y2
   unfold impl_locksOk.j0
   repeat' first
   | (with_reducible exact ih0 _ _ _)
   | (with_reducible exact ih1 _ _ _ _)
   | (with_reducible exact LeO.refl _)
   | (with_reducible exact LeO.none _)
   | (with_reducible refine LeO.ite ?_ ?_)
   | (with_reducible refine LeO.bind ?_ (fun _ => ?_))
   | exact ih0 _ _ _
   | exact ih1 _ _ _ _
   | exact LeO.none _
   | refine LeO.ite ?_ ?_
   | refine LeO.bind ?_ (fun _ => ?_)
  ·
   intro y0 y1 y2 y3
   unfold impl_locksOk.l0
   repeat' first
   | (with_reducible exact ih0 _ _ _)
   | (with_reducible exact ih1 _ _ _ _)
   | (with_reducible exact LeO.refl _)
   | (with_reducible exact LeO.none _)
   | (with_reducible refine LeO.ite ?_ ?_)
   | (with_reducible refine LeO.bind ?_ (fun _ => ?_))
   | exact ih0 _ _ _
   | exact ih1 _ _ _ _
   | exact LeO.none _
   | refine LeO.ite ?_ ?_
   | refine LeO.bind ?_ (fun _ => ?_)
theorem impl_locksOk.mono : ∀ y0 y1 k, LeO (impl_locksOk.f k y0 y1) (impl_locksOk.f (k + 1) y0 y1) := by
 intro y0 y1 k
 obtain ⟨ih0, ih1⟩ := impl_locksOk.mono_l k
 unfold impl_locksOk.f
 repeat' first
   | (with_reducible exact ih0 _ _ _)
   | (with_reducible exact ih1 _ _ _ _)
   | (with_reducible exact LeO.refl _)
   | (with_reducible exact LeO.none _)
   | (with_reducible refine LeO.ite ?_ ?_)
   | (with_reducible refine LeO.bind ?_ (fun _ => ?_))
   | exact ih0 _ _ _
   | exact ih1 _ _ _ _
   | exact LeO.none _
   | refine LeO.ite ?_ ?_
   | refine LeO.bind ?_ (fun _ => ?_)
set_option maxHeartbeats 8000000 in
set_option maxRecDepth 100000 in
theorem impl_locksOk.calls (k : Nat) (a0 : Int) (a1 : Int) (r : Bool) (w : World) (h : impl_locksOk.f k a0 a1 = some r) :
  Calls Tryd.prog 69 #[.int .i64 a0, .int .i64 a1] w fun e w' => e = .returned (.bool r) ∧ Drawn0 w w' := by
 have H : ((impl_in.f a0 1 10).bind fun t101 => (if t101 = true then ((impl_pinLong.f a1).bind fun t102 => (impl_locksOk.j0 k a0 a1 (!t102))) else (impl_locksOk.j0 k a0 a1 true))) = some r := h
 clear h
 have HC3 := Aside0.mk H
 clear H
 go_enter Tryd.func69, Tryd.ntmps69
 go_upto_region 1 with (fail)
 go_cut [13] (fun v13 wc => ∃ (kq : Nat) (x13_2 : Bool), v13 = .bool x13_2 ∧ Aside0 (impl_locksOk.j0 kq a0 a1 x13_2 = some r) ∧ Aside0 (kq ≤ k) ∧ Drawn0 w wc)
 case first =>
  have H := HC3.out
  clear HC3
  replace H := Option.bind_eq_some_iff.mp H
  obtain ⟨t101, A40, H⟩ := H
  replace H : (if t101 = true then ((impl_pinLong.f a1).bind fun t102 => (impl_locksOk.j0 k a0 a1 (!t102))) else (impl_locksOk.j0 k a0 a1 true)) = some r := H
  have A4 := Aside0.mk A40
  clear A40
  by_cases c5 : t101 = true
  ·
   subst c5
   have H1 : ((impl_pinLong.f a1).bind fun t102 => (impl_locksOk.j0 k a0 a1 (!t102))) = some r := by rw [if_pos rfl] at H; exact H
   clear H
   have H := H1
   clear H1
   replace H := Option.bind_eq_some_iff.mp H
   obtain ⟨t102, A60, H⟩ := H
   replace H : (impl_locksOk.j0 k a0 a1 (!t102)) = some r := H
   have A6 := Aside0.mk A60
   clear A60
   have H' := Aside0.mk H
   clear H
   go_wp2_with (first | ((with_reducible refine gate_callee (f := 47) rfl ?_); refine goesL_ (some 7) rfl rfl Tryd.func47 (by kernel_rfl) rfl #[.int .i64 a0, .int .i64 1, .int .i64 10] rfl (by (try simp only [List.map_toArray, List.map_cons, List.map_nil]); first | done | rfl | (simp only [List.length_drop, List.length_take]; rfl)) ?_; (with_reducible refine (impl_in.calls a0 1 10 true _ A4.out).mono ?_); rintro e w' ⟨rfl, ⟨nd, rfl⟩⟩; refine ⟨_, rfl, ?_⟩) | (go_at_call 83; (with_reducible refine (impl_pinLong.calls a1 t102 _ A6.out).mono ?_); rintro e w' ⟨rfl, ⟨nd, rfl⟩⟩))
   go_meet
   case rel => exact ⟨_, (!t102), (by first | rfl | (simp; done) | (simp [*]; done)), H', ⟨by first | omega | exact Nat.le_refl _⟩, by repeat (first | exact Drawn0.refl _ | apply Drawn0.step)⟩
  ·
   replace c5 := Bool.eq_false_iff.mpr c5
   subst c5
   have H1 : (impl_locksOk.j0 k a0 a1 true) = some r := by rw [if_neg (show ¬ (false = true) by decide)] at H; exact H
   clear H
   have H := H1
   clear H1
   have H' := Aside0.mk H
   clear H
   go_wp2_with (first | ((with_reducible refine gate_callee (f := 47) rfl ?_); refine goesL_ (some 7) rfl rfl Tryd.func47 (by kernel_rfl) rfl #[.int .i64 a0, .int .i64 1, .int .i64 10] rfl (by (try simp only [List.map_toArray, List.map_cons, List.map_nil]); first | done | rfl | (simp only [List.length_drop, List.length_take]; rfl)) ?_; (with_reducible refine (impl_in.calls a0 1 10 false _ A4.out).mono ?_); rintro e w' ⟨rfl, ⟨nd, rfl⟩⟩; refine ⟨_, rfl, ?_⟩))
   go_meet
   case rel => exact ⟨_, (true), (by first | rfl | (simp; done) | (simp [*]; done)), H', ⟨by first | omega | exact Nat.le_refl _⟩, by repeat (first | exact Drawn0.refl _ | apply Drawn0.step)⟩
 case rest =>
  clear HC3
  try clear p2
  try clear c4
  try clear c5
  try clear c6
  obtain ⟨kq, x13_2, rfl, HA, HJ2, ⟨mc2, rfl⟩⟩ := hcut
  cases kq with
  | zero => exact absurd HA.out (by simp [impl_locksOk.j0])
  | succ kj2 =>
   have H := HA.out
   clear HA
   simp only [impl_locksOk.j0] at H
   by_cases c7 : x13_2 = true
   ·
    subst c7
    have H1 : (some false) = some r := by rw [if_pos rfl] at H; exact H
    clear H
    have H := H1
    clear H1
    obtain rfl := Option.some.inj H
    go_wp2
    go_ret
    exact ⟨by first | rfl | (simp; done) | (simp [*]; done), by repeat (first | exact Drawn0.refl _ | apply Drawn0.step)⟩
   ·
    replace c7 := Bool.eq_false_iff.mpr c7
    subst c7
    have H1 : (impl_locksOk.l0 kj2 a0 1 a1 0) = some r := by rw [if_neg (show ¬ (false = true) by decide)] at H; exact H
    clear H
    have H := H1
    clear H1
    have H' := Aside0.mk H
    clear H
    go_wp2
    go_loopg [5, 15] kj2 (fun kq v5 v15 w' => ∃ (x5_2 : Int) (x15_2 : Int), v5 = .int .i64 x5_2 ∧ v15 = .int .i64 x15_2 ∧ Aside0 (impl_locksOk.l0 kq a0 x5_2 a1 x15_2 = some r) ∧ Aside0 (kq ≤ kj2) ∧ Drawn0 w w')
    case atStart => exact ⟨(1), (0), (by first | rfl | (simp; done) | (simp [*]; done)), (by first | rfl | (simp; done) | (simp [*]; done)), H', ⟨Nat.le_refl _⟩, by repeat (first | exact Drawn0.refl _ | apply Drawn0.step)⟩
    case round =>
     clear H'
     try clear c2
     try clear p2
     try clear c4
     try clear c5
     try clear c6
     try clear c7
     try clear p2
     obtain ⟨x5_2, x15_2, rfl, rfl, HA, HK2, ⟨m2, rfl⟩⟩ := hrel
     cases gk with
     | zero => exact absurd HA.out (by simp [impl_locksOk.l0])
     | succ k2 =>
      have H := HA.out
      clear HA
      simp only [impl_locksOk.l0] at H
      by_cases c8 : x15_2 < a1
      ·
       rw [if_pos c8] at H
       have c8b0 : decide (x15_2 < a1) = true := decide_eq_true c8
       clear c8
       have H' := Aside0.mk H
       clear H
       go_wp2
       go_roundg k2
       case measure => have := HJ2.out; have := HK2.out; omega
       case rel => exact ⟨(wrap64 (x5_2 * a0)), (wrap64 (x15_2 + 1)), (by first | rfl | (simp; done) | (simp [*]; done)), (by first | rfl | (simp; done) | (simp [*]; done)), H', ⟨by have := HJ2.out; have := HK2.out; omega⟩, by repeat (first | exact Drawn0.refl _ | apply Drawn0.step)⟩
      ·
       rw [if_neg c8] at H
       have c8b0 : decide (x15_2 < a1) = false := decide_eq_false c8
       clear c8
       obtain rfl := Option.some.inj H
       go_wp2
       go_ret
       exact ⟨by first | rfl | (simp; done) | (simp [*]; done), by repeat (first | exact Drawn0.refl _ | apply Drawn0.step)⟩

end Go.Proofs.YtjnkfnabbekinaaDoor.P

-- printed by xprint.py
namespace Go.Proofs.YtjnkfnabbekinaaDoor.P
open Go.RowKit Go.Proofs.YtjnkfnabbekinaaDoorW.PrintWords Go.Proofs.YtjnkfnabbekinaaDoorW.PrintLast Go.Proofs.YtjnkfnabbekinaaDoorW.PrintMore
attribute [local go_sem] max2_int min2_int max_two min_two max_three min_three max_four min_four   -- for this text's walks alone
set_option linter.unusedVariables false
set_option linter.unusedSimpArgs false

/-! ### slices_IndexFunc_string_string: function 84 -/
def slices_IndexFunc_string_string.l0 : Nat → List ByteArray → (ByteArray → Option Bool) → Int → Int → Option (Int)
 | 0, _, _, _, _ => none
 | k + 1, x0, x1, x7, x8 => if x8 < x7 then (if 0 ≤ x8 then (if x8 < (x0.length : Int) then ((x1 (rdOf ByteArray.empty x0 x8)).bind fun t102 => (if t102 = true then (some x8) else (slices_IndexFunc_string_string.l0 k x0 x1 x7 (wrap64 (x8 + 1))))) else (none)) else (none)) else (some (-1))
def slices_IndexFunc_string_string.f (k : Nat) (l0 : List ByteArray) (F1 : (ByteArray → Option Bool)) : Option (Int) := slices_IndexFunc_string_string.l0 k l0 F1 (l0.length : Int) 0
theorem slices_IndexFunc_string_string.mono_l : ∀ k, (∀ y0 (y1 y1_ : (ByteArray → Option Bool)) (hm1_ : ∀ u0, LeO (y1 u0) (y1_ u0)) y2 y3, LeO (slices_IndexFunc_string_string.l0 k y0 y1 y2 y3) (slices_IndexFunc_string_string.l0 (k + 1) y0 y1_ y2 y3))
 | 0 => by intros; intro r h; simp [slices_IndexFunc_string_string.l0] at h
 | k + 1 => by
  have ih0 := slices_IndexFunc_string_string.mono_l k
  ·
   intro y0 y1 y1_ hm1_ y2 y3
   unfold slices_IndexFunc_string_string.l0
   repeat' first
   | (with_reducible exact ih0 _ _ _ (by intros; first | exact LeO.refl _ | apply hm0_ | apply hm1_ | apply hm2_) _ _)
   | exact hm1_ _
   | (with_reducible exact LeO.refl _)
   | (with_reducible exact LeO.none _)
   | (with_reducible refine LeO.ite ?_ ?_)
   | (with_reducible refine LeO.bind ?_ (fun _ => ?_))
   | exact ih0 _ _ _ (by intros; first | exact LeO.refl _ | apply hm0_ | apply hm1_ | apply hm2_) _ _
   | exact LeO.none _
   | refine LeO.ite ?_ ?_
   | refine LeO.bind ?_ (fun _ => ?_)
theorem slices_IndexFunc_string_string.mono : ∀ y0 (y1 y1_ : (ByteArray → Option Bool)) (hm1_ : ∀ u0, LeO (y1 u0) (y1_ u0)) k, LeO (slices_IndexFunc_string_string.f k y0 y1) (slices_IndexFunc_string_string.f (k + 1) y0 y1_) := by
 intro y0 y1 y1_ hm1_ k
 have ih0 := slices_IndexFunc_string_string.mono_l k
 unfold slices_IndexFunc_string_string.f
 repeat' first
   | (with_reducible exact ih0 _ _ _ (by intros; first | exact LeO.refl _ | apply hm0_ | apply hm1_ | apply hm2_) _ _)
   | exact hm1_ _
   | (with_reducible exact LeO.refl _)
   | (with_reducible exact LeO.none _)
   | (with_reducible refine LeO.ite ?_ ?_)
   | (with_reducible refine LeO.bind ?_ (fun _ => ?_))
   | exact ih0 _ _ _ (by intros; first | exact LeO.refl _ | apply hm0_ | apply hm1_ | apply hm2_) _ _
   | exact LeO.none _
   | refine LeO.ite ?_ ?_
   | refine LeO.bind ?_ (fun _ => ?_)
set_option maxHeartbeats 8000000 in
set_option maxRecDepth 100000 in
theorem slices_IndexFunc_string_string.calls (k : Nat) (A0 : Option Addr) (c0 : Nat) (l0 : List ByteArray) (F1 : (ByteArray → Option Bool)) (G1 : Nat) (L1 : Array Value) (r : Int) (w : World) (hr0 : Kd.C Kd.string w A0 l0.length l0) (hc0 : l0.length ≤ c0) (eg1 : ∀ args w, (callFunc G1 args).run Tryd.prog w = .ok (.enter G1 args) w) (hF1 : ∀ (W : World) (z0_ : ByteArray) (t : Bool), F1 z0_ = some t → Below w.heap.size w W → Calls Tryd.prog G1 (#[.string z0_] ++ L1) W fun e W' => e = .returned (.bool t) ∧ Below W.heap.size W W') (h : slices_IndexFunc_string_string.f k l0 F1 = some r) :
  Calls Tryd.prog 84 #[.slice A0 l0.length c0, .func (.func G1) #[] L1] w fun e w' => e = .returned (.int .i64 r) ∧ Below w.heap.size w w' := by
 have HR0 := Aside0.mk hr0
 have HC0 := Aside0.mk hc0
 clear hr0 hc0
 have HF1 := Aside0.mk hF1
 clear hF1
 have HB := Aside0.mk (Below.refl w.heap.size w)
 have H : (slices_IndexFunc_string_string.l0 k l0 F1 (l0.length : Int) 0) = some r := h
 clear h
 have H' := Aside0.mk H
 clear H
 go_enter Tryd.func84, Tryd.ntmps84
 go_wp2
 go_loopg [8] k (fun kq v8 w' => ∃ (x8_1 : Int), v8 = .int .i64 x8_1 ∧ Aside0 (slices_IndexFunc_string_string.l0 kq l0 F1 (l0.length : Int) x8_1 = some r) ∧ Aside0 (kq ≤ k) ∧ Aside0 (Below w.heap.size w w'))
 case atStart => exact ⟨(0), (by first | rfl | (simp; done) | (simp [*]; done)), H', ⟨Nat.le_refl _⟩, ⟨by repeat (first | (with_reducible first | exact HB.out | apply below_alloc | apply pw_below_drewN | apply below_drew1) | exact HB.out)⟩⟩
 case round =>
  clear H'
  try clear p2
  obtain ⟨x8_1, rfl, HA, HK1, HB⟩ := hrel
  cases gk with
  | zero => exact absurd HA.out (by simp [slices_IndexFunc_string_string.l0])
  | succ k1 =>
   have H := HA.out
   clear HA
   simp only [slices_IndexFunc_string_string.l0] at H
   by_cases c3 : x8_1 < (l0.length : Int)
   ·
    rw [if_pos c3] at H
    have c3b0 : decide (x8_1 < (l0.length : Int)) = true := decide_eq_true c3
    clear c3
    by_cases c4 : 0 ≤ x8_1
    ·
     rw [if_pos c4] at H
     have c4b0 : decide (0 ≤ x8_1) = true := decide_eq_true c4
     clear c4
     by_cases c5 : x8_1 < (l0.length : Int)
     ·
      rw [if_pos c5] at H
      have c5b0 : decide (x8_1 < (l0.length : Int)) = true := decide_eq_true c5
      clear c5
      replace H := Option.bind_eq_some_iff.mp H
      obtain ⟨t102, A60, H⟩ := H
      replace H : (if t102 = true then (some x8_1) else (slices_IndexFunc_string_string.l0 k1 l0 F1 (l0.length : Int) (wrap64 (x8_1 + 1)))) = some r := H
      have A6 := Aside0.mk A60
      clear A60
      by_cases c7 : t102 = true
      ·
       subst c7
       have H1 : (some x8_1) = some r := by rw [if_pos rfl] at H; exact H
       clear H
       have H := H1
       clear H1
       obtain rfl := Option.some.inj H
       have p101 : 0 ≤ (x8_1 : Int) := of_decide_eq_true (by first | (with_reducible assumption) | assumption)
       have q101 : x8_1 < (l0.length : Int) := of_decide_eq_true (by first | (with_reducible assumption) | assumption)
       obtain ⟨ad101, e101, hx101_0⟩ := Kd.at_string HR0.out x8_1 p101 q101
       cases e101
       (try replace hx101_0 := (HB.out.cell (World.block_lt_of_cell? w _ hx101_0)).trans hx101_0)
       replace p101 := eq_true p101
       replace q101 := eq_true q101
       go_wp2_with (first | ((with_reducible refine (HF1.out _ (rdOf ByteArray.empty l0 x8_1) true A6.out (by repeat (first | (with_reducible first | exact HB.out | apply below_alloc | apply pw_below_drewN | apply below_drew1) | exact HB.out))).mono ?_); rintro e w8 ⟨rfl, hb⟩; have n0_ := Aside0.mk (below_step (by repeat (first | (with_reducible first | exact HB.out | apply below_alloc | apply pw_below_drewN | apply below_drew1) | exact HB.out)) hb); clear HB; have HB := n0_; clear n0_; (try clear hb); (try clear hb2); (try clear hk); (try clear hi)))
       go_ret
       exact ⟨by first | rfl | (simp [errW_none, errW_some] <;> rfl) | (simp [*, errW_none, errW_some] <;> rfl), by repeat (first | (with_reducible first | exact HB.out | apply below_alloc | apply pw_below_drewN | apply below_drew1) | exact HB.out)⟩
      ·
       replace c7 := Bool.eq_false_iff.mpr c7
       subst c7
       have H1 : (slices_IndexFunc_string_string.l0 k1 l0 F1 (l0.length : Int) (wrap64 (x8_1 + 1))) = some r := by rw [if_neg (show ¬ (false = true) by decide)] at H; exact H
       clear H
       have H := H1
       clear H1
       have H' := Aside0.mk H
       clear H
       have p101 : 0 ≤ (x8_1 : Int) := of_decide_eq_true (by first | (with_reducible assumption) | assumption)
       have q101 : x8_1 < (l0.length : Int) := of_decide_eq_true (by first | (with_reducible assumption) | assumption)
       obtain ⟨ad101, e101, hx101_0⟩ := Kd.at_string HR0.out x8_1 p101 q101
       cases e101
       (try replace hx101_0 := (HB.out.cell (World.block_lt_of_cell? w _ hx101_0)).trans hx101_0)
       replace p101 := eq_true p101
       replace q101 := eq_true q101
       go_wp2_with (first | ((with_reducible refine (HF1.out _ (rdOf ByteArray.empty l0 x8_1) false A6.out (by repeat (first | (with_reducible first | exact HB.out | apply below_alloc | apply pw_below_drewN | apply below_drew1) | exact HB.out))).mono ?_); rintro e w9 ⟨rfl, hb⟩; have n0_ := Aside0.mk (below_step (by repeat (first | (with_reducible first | exact HB.out | apply below_alloc | apply pw_below_drewN | apply below_drew1) | exact HB.out)) hb); clear HB; have HB := n0_; clear n0_; (try clear hb); (try clear hb2); (try clear hk); (try clear hi)))
       go_roundg k1
       case measure => have := HK1.out; omega
       case rel => exact ⟨(wrap64 (x8_1 + 1)), (by first | rfl | (simp; done) | (simp [*]; done)), H', ⟨by have := HK1.out; omega⟩, ⟨by repeat (first | (with_reducible first | exact HB.out | apply below_alloc | apply pw_below_drewN | apply below_drew1) | exact HB.out)⟩⟩
     ·
      rw [if_neg c5] at H
      exact absurd H (by simp)
    ·
     rw [if_neg c4] at H
     exact absurd H (by simp)
   ·
    rw [if_neg c3] at H
    have c3b0 : decide (x8_1 < (l0.length : Int)) = false := decide_eq_false c3
    clear c3
    obtain rfl := Option.some.inj H
    go_wp2
    go_ret
    exact ⟨by first | rfl | (simp [errW_none, errW_some] <;> rfl) | (simp [*, errW_none, errW_some] <;> rfl), by repeat (first | (with_reducible first | exact HB.out | apply below_alloc | apply pw_below_drewN | apply below_drew1) | exact HB.out)⟩

end Go.Proofs.YtjnkfnabbekinaaDoor.P

-- printed by xprint.py
namespace Go.Proofs.YtjnkfnabbekinaaDoor.P
open Go.RowKit Go.Proofs.YtjnkfnabbekinaaDoorW.PrintWords Go.Proofs.YtjnkfnabbekinaaDoorW.PrintLast Go.Proofs.YtjnkfnabbekinaaDoorW.PrintMore
attribute [local go_sem] max2_int min2_int max_two min_two max_three min_three max_four min_four   -- for this text's walks alone
set_option linter.unusedVariables false
set_option linter.unusedSimpArgs false

/-! ### slices_ContainsFunc_string_string: function 70 -/
def slices_ContainsFunc_string_string.f (k : Nat) (l0 : List ByteArray) (F1 : (ByteArray → Option Bool)) : Option (Bool) := (slices_IndexFunc_string_string.f k l0 F1).bind fun t101 => (some (decide (t101 ≥ 0)))
theorem slices_ContainsFunc_string_string.mono : ∀ y0 (y1 y1_ : (ByteArray → Option Bool)) (hm1_ : ∀ u0, LeO (y1 u0) (y1_ u0)) k, LeO (slices_ContainsFunc_string_string.f k y0 y1) (slices_ContainsFunc_string_string.f (k + 1) y0 y1_) := by
 intro y0 y1 y1_ hm1_ k
 unfold slices_ContainsFunc_string_string.f
 repeat' first
   | (with_reducible exact slices_IndexFunc_string_string.mono _ _ _ (by intros; first | exact LeO.refl _ | apply hm0_ | apply hm1_ | apply hm2_) _)
   | exact hm1_ _
   | (with_reducible exact LeO.refl _)
   | (with_reducible exact LeO.none _)
   | (with_reducible refine LeO.ite ?_ ?_)
   | (with_reducible refine LeO.bind ?_ (fun _ => ?_))
   | exact slices_IndexFunc_string_string.mono _ _ _ (by intros; first | exact LeO.refl _ | apply hm0_ | apply hm1_ | apply hm2_) _
   | exact LeO.none _
   | refine LeO.ite ?_ ?_
   | refine LeO.bind ?_ (fun _ => ?_)
set_option maxHeartbeats 8000000 in
set_option maxRecDepth 100000 in
theorem slices_ContainsFunc_string_string.calls (k : Nat) (A0 : Option Addr) (c0 : Nat) (l0 : List ByteArray) (F1 : (ByteArray → Option Bool)) (G1 : Nat) (L1 : Array Value) (r : Bool) (w : World) (hr0 : Kd.C Kd.string w A0 l0.length l0) (hc0 : l0.length ≤ c0) (eg1 : ∀ args w, (callFunc G1 args).run Tryd.prog w = .ok (.enter G1 args) w) (hF1 : ∀ (W : World) (z0_ : ByteArray) (t : Bool), F1 z0_ = some t → Below w.heap.size w W → Calls Tryd.prog G1 (#[.string z0_] ++ L1) W fun e W' => e = .returned (.bool t) ∧ Below W.heap.size W W') (h : slices_ContainsFunc_string_string.f k l0 F1 = some r) :
  Calls Tryd.prog 70 #[.slice A0 l0.length c0, .func (.func G1) #[] L1] w fun e w' => e = .returned (.bool r) ∧ Below w.heap.size w w' := by
 have HR0 := Aside0.mk hr0
 have HC0 := Aside0.mk hc0
 clear hr0 hc0
 have HF1 := Aside0.mk hF1
 clear hF1
 have HB := Aside0.mk (Below.refl w.heap.size w)
 have H : ((slices_IndexFunc_string_string.f k l0 F1).bind fun t101 => (some (decide (t101 ≥ 0)))) = some r := h
 clear h
 replace H := Option.bind_eq_some_iff.mp H
 obtain ⟨t101, A30, H⟩ := H
 replace H : (some (decide (t101 ≥ 0))) = some r := H
 have A3 := Aside0.mk A30
 clear A30
 obtain rfl := Option.some.inj H
 go_enter Tryd.func70, Tryd.ntmps70
 go_wp2_with (first | (go_at_call 84; (with_reducible refine (slices_IndexFunc_string_string.calls k _ _ l0 F1 G1 L1 t101 _ ?side1 ?side2 ?side3 ?side4 A3.out).mono ?_); (case side1 => repeat (first | exact HR0.out | (with_reducible refine Kd.C_alloc ?_ _) | (with_reducible refine Kd.C_drewN ?_ _) | (with_reducible refine Kd.C_drew ?_))); (case side2 => exact HC0.out); (case side3 => exact eg1); (case side4 => exact fun W_ z0_ t_ h_ hb_ => HF1.out W_ z0_ t_ h_ (below_step (by repeat (first | (with_reducible first | exact HB.out | apply below_alloc | apply pw_below_drewN | apply below_drew1) | exact HB.out)) hb_)); rintro e w4 ⟨rfl, hb⟩; have n0_ := Aside0.mk (below_step (by repeat (first | (with_reducible first | exact HB.out | apply below_alloc | apply pw_below_drewN | apply below_drew1) | exact HB.out)) hb); clear HB; have HB := n0_; clear n0_; (try clear hb); (try clear hb2); (try clear hk); (try clear hi)))
 go_ret
 exact ⟨by first | rfl | (simp [errW_none, errW_some] <;> rfl) | (simp [*, errW_none, errW_some] <;> rfl), by repeat (first | (with_reducible first | exact HB.out | apply below_alloc | apply pw_below_drewN | apply below_drew1) | exact HB.out)⟩

end Go.Proofs.YtjnkfnabbekinaaDoor.P

-- printed by xprint.py
namespace Go.Proofs.YtjnkfnabbekinaaDoor.P
open Go.RowKit Go.Proofs.YtjnkfnabbekinaaDoorW.PrintWords Go.Proofs.YtjnkfnabbekinaaDoorW.PrintLast Go.Proofs.YtjnkfnabbekinaaDoorW.PrintMore
attribute [local go_sem] max2_int min2_int max_two min_two max_three min_three max_four min_four   -- for this text's walks alone
set_option linter.unusedVariables false
set_option linter.unusedSimpArgs false

/-! ### impl_DoesOpenAll: function 42 -/
def impl_DoesOpenAll.j0 : Nat → Int → Int → Bool → ByteArray → Option (Bool × Bool)
 | 0, _, _, _, _ => none
 | k + 1, x1, x2, x16, x102000 => if x16 = true then (some (false, false)) else ((impl_allTexts.f k x1 x2).bind fun t104 => ((slices_ContainsFunc_string_string.f k t104 (fun z0_ => impl_DoesOpenAll_1.f z0_ x102000)).bind fun t107 => (some (!t107, true))))
def impl_DoesOpenAll.f (k : Nat) (a0 : ByteArray) (a1 : Int) (a2 : Int) : Option (Bool × Bool) := (impl_isDigits.f a0 0 1300).bind fun t102 => (if t102 = true then ((impl_locksOk.f k a1 a2).bind fun t103 => (impl_DoesOpenAll.j0 k a1 a2 (!t103) a0)) else (impl_DoesOpenAll.j0 k a1 a2 true a0))
theorem impl_DoesOpenAll.mono_l : ∀ k, (∀ y0 y1 y2 y3, LeO (impl_DoesOpenAll.j0 k y0 y1 y2 y3) (impl_DoesOpenAll.j0 (k + 1) y0 y1 y2 y3))
 | 0 => by intros; intro r h; simp [impl_DoesOpenAll.j0] at h
 | k + 1 => by
  have ih0 := impl_DoesOpenAll.mono_l k
  ·
   intro y0 y1 y2 y3
   unfold impl_DoesOpenAll.j0
   repeat' first
   | (with_reducible exact ih0 _ _ _ _)
   | (with_reducible exact impl_allTexts.mono _ _ _)
   | (with_reducible exact impl_locksOk.mono _ _ _)
   | (with_reducible exact slices_ContainsFunc_string_string.mono _ _ _ (by intros; first | exact LeO.refl _ | apply hm0_ | apply hm1_ | apply hm2_) _)
   | (with_reducible exact LeO.refl _)
   | (with_reducible exact LeO.none _)
   | (with_reducible refine LeO.ite ?_ ?_)
   | (with_reducible refine LeO.bind ?_ (fun _ => ?_))
   | exact ih0 _ _ _ _
   | exact impl_allTexts.mono _ _ _
   | exact impl_locksOk.mono _ _ _
   | exact slices_ContainsFunc_string_string.mono _ _ _ (by intros; first | exact LeO.refl _ | apply hm0_ | apply hm1_ | apply hm2_) _
   | exact LeO.none _
   | refine LeO.ite ?_ ?_
   | refine LeO.bind ?_ (fun _ => ?_)
theorem impl_DoesOpenAll.mono : ∀ y0 y1 y2 k, LeO (impl_DoesOpenAll.f k y0 y1 y2) (impl_DoesOpenAll.f (k + 1) y0 y1 y2) := by
 intro y0 y1 y2 k
 have ih0 := impl_DoesOpenAll.mono_l k
 unfold impl_DoesOpenAll.f
 repeat' first
   | (with_reducible exact ih0 _ _ _ _)
   | (with_reducible exact impl_allTexts.mono _ _ _)
   | (with_reducible exact impl_locksOk.mono _ _ _)
   | (with_reducible exact slices_ContainsFunc_string_string.mono _ _ _ (by intros; first | exact LeO.refl _ | apply hm0_ | apply hm1_ | apply hm2_) _)
   | (with_reducible exact LeO.refl _)
   | (with_reducible exact LeO.none _)
   | (with_reducible refine LeO.ite ?_ ?_)
   | (with_reducible refine LeO.bind ?_ (fun _ => ?_))
   | exact ih0 _ _ _ _
   | exact impl_allTexts.mono _ _ _
   | exact impl_locksOk.mono _ _ _
   | exact slices_ContainsFunc_string_string.mono _ _ _ (by intros; first | exact LeO.refl _ | apply hm0_ | apply hm1_ | apply hm2_) _
   | exact LeO.none _
   | refine LeO.ite ?_ ?_
   | refine LeO.bind ?_ (fun _ => ?_)
set_option maxHeartbeats 8000000 in
set_option maxRecDepth 100000 in
theorem impl_DoesOpenAll.calls (k : Nat) (a0 : ByteArray) (a1 : Int) (a2 : Int) (r1 : Bool) (r2 : Bool) (w : World) (hml : ∃ m_ : Int, w.cell? ⟨0, 0, none⟩ = some (.int .i64 m_)) (h : impl_DoesOpenAll.f k a0 a1 a2 = some (r1, r2)) :
  Calls Tryd.prog 42 #[.string a0, .int .i64 a1, .int .i64 a2] w fun e w' => e = .returned (.tuple #[.bool r1, .bool r2]) ∧ Below w.heap.size w w' := by
 obtain ⟨ml_, hml⟩ := hml
 have HML := Aside0.mk hml
 clear hml
 have HB := Aside0.mk (Below.refl w.heap.size w)
 have H : ((impl_isDigits.f a0 0 1300).bind fun t102 => (if t102 = true then ((impl_locksOk.f k a1 a2).bind fun t103 => (impl_DoesOpenAll.j0 k a1 a2 (!t103) a0)) else (impl_DoesOpenAll.j0 k a1 a2 true a0))) = some (r1, r2) := h
 clear h
 have HC4 := Aside0.mk H
 clear H
 go_enter Tryd.func42, Tryd.ntmps42
 go_upto_region 1 with (first | ((with_reducible refine gate_dst (N := 3) rfl ?_); refine box_event ?hg (N := 3) ?hd (cs := #[.string a0]) (t := 9) ?hr ?_; (case hd => rfl); (case hg => rfl); (case hr => first | (go_simp; done) | (go_simp; rfl)); intro gb101 hg w5 hbox hb; have n0_ := Aside0.mk (below_step (by repeat (first | (with_reducible first | exact HB.out | apply below_alloc | apply pw_below_drewN | apply below_drew1) | exact HB.out)) hb); have n1_ := Aside0.mk (hbox); have n2_ := Aside0.mk ((by rw [hg]; exact (below_size (by repeat (first | (with_reducible first | exact HB.out | apply below_alloc | apply pw_below_drewN | apply below_drew1) | exact HB.out))) : w.heap.size ≤ gb101)); have n3_ := Aside0.mk ((by rw [hg]; exact (below_size (by repeat (first | (with_reducible first | exact HB.out | apply below_alloc | apply pw_below_drewN | apply below_drew1) | exact HB.out))) : w.heap.size ≤ gb101)); clear HB; have HB := n0_; have BK101 := n1_; have GW101 := n2_; have GE101 := n3_; clear n0_ n1_ n2_ n3_; clear hb hbox hg))
 (try simp only [Act.put, List.setIfInBounds_toArray, List.set_cons_zero, List.set_cons_succ])
 go_cut [16] (fun v16 wc => ∃ (kq : Nat) (x16_3 : Bool), v16 = .bool x16_3 ∧ Aside0 (impl_DoesOpenAll.j0 kq a1 a2 x16_3 a0 = some (r1, r2)) ∧ Aside0 (kq ≤ k) ∧ Aside0 (wc.heap[gb101]? = some (.cells #[.string a0] 9 (0, 0))) ∧ Aside0 (Below w.heap.size w wc))
 case first =>
  have H := HC4.out
  clear HC4
  replace H := Option.bind_eq_some_iff.mp H
  obtain ⟨t102, A60, H⟩ := H
  replace H : (if t102 = true then ((impl_locksOk.f k a1 a2).bind fun t103 => (impl_DoesOpenAll.j0 k a1 a2 (!t103) a0)) else (impl_DoesOpenAll.j0 k a1 a2 true a0)) = some (r1, r2) := H
  have A6 := Aside0.mk A60
  clear A60
  by_cases c7 : t102 = true
  ·
   subst c7
   have H1 : ((impl_locksOk.f k a1 a2).bind fun t103 => (impl_DoesOpenAll.j0 k a1 a2 (!t103) a0)) = some (r1, r2) := by rw [if_pos rfl] at H; exact H
   clear H
   have H := H1
   clear H1
   replace H := Option.bind_eq_some_iff.mp H
   obtain ⟨t103, A80, H⟩ := H
   replace H : (impl_DoesOpenAll.j0 k a1 a2 (!t103) a0) = some (r1, r2) := H
   have A8 := Aside0.mk A80
   clear A80
   have H' := Aside0.mk H
   clear H
   have hcz9_0 : w5.cell? ⟨gb101, 0, none⟩ = some (.string a0) := (blk_cell BK101.out 0).trans rfl
   have hfz9_0 := blk_frozen BK101.out 0
   go_wp2_with (first | ((with_reducible refine gate_callee (f := 44) rfl ?_); refine goesL_ (some 9) rfl rfl Tryd.func44 (by kernel_rfl) rfl #[.string a0, .int .i64 0, .int .i64 1300] rfl (by (try simp only [List.map_toArray, List.map_cons, List.map_nil]); first | done | rfl | (simp only [List.length_drop, List.length_take]; rfl)) ?_; (with_reducible refine (impl_isDigits.calls a0 0 1300 true _ A6.out).mono ?_); rintro e w10 ⟨rfl, hb⟩; refine ⟨_, rfl, ?_⟩; have n0_ := Aside0.mk (blk_below (g := gb101) (o := .cells #[.string a0] 9 (0, 0)) (by (with_reducible repeat (first | refine blk_drewN ?_ _ | refine blk_drew ?_ | refine blk_alloc ?_ _)); exact BK101.out) hb); have n1_ := Aside0.mk (below_step (by repeat (first | (with_reducible first | exact HB.out | apply below_alloc | apply pw_below_drewN | apply below_drew1 | refine below_set ?_ GE101.out) | exact HB.out)) hb); clear BK101; clear HB; have BK101 := n0_; have HB := n1_; clear n0_ n1_; (try clear hb); (try clear hb2); (try clear hk); (try clear hi)) | (go_at_call 69; (with_reducible refine (impl_locksOk.calls k a1 a2 t103 _ A8.out).mono ?_); rintro e w' ⟨rfl, ⟨nd, rfl⟩⟩))
   go_meet
   case rel => exact ⟨_, (!t103), (by first | rfl | (simp; done) | (simp [*]; done)), H', ⟨by first | omega | exact Nat.le_refl _⟩, ⟨by (with_reducible repeat (first | refine blk_drewN ?_ _ | refine blk_drew ?_ | refine blk_alloc ?_ _)); exact BK101.out⟩, ⟨by repeat (first | (with_reducible first | exact HB.out | apply below_alloc | apply pw_below_drewN | apply below_drew1 | refine below_set ?_ GE101.out) | exact HB.out)⟩⟩
  ·
   replace c7 := Bool.eq_false_iff.mpr c7
   subst c7
   have H1 : (impl_DoesOpenAll.j0 k a1 a2 true a0) = some (r1, r2) := by rw [if_neg (show ¬ (false = true) by decide)] at H; exact H
   clear H
   have H := H1
   clear H1
   have H' := Aside0.mk H
   clear H
   have hcz11_0 : w5.cell? ⟨gb101, 0, none⟩ = some (.string a0) := (blk_cell BK101.out 0).trans rfl
   have hfz11_0 := blk_frozen BK101.out 0
   go_wp2_with (first | ((with_reducible refine gate_callee (f := 44) rfl ?_); refine goesL_ (some 9) rfl rfl Tryd.func44 (by kernel_rfl) rfl #[.string a0, .int .i64 0, .int .i64 1300] rfl (by (try simp only [List.map_toArray, List.map_cons, List.map_nil]); first | done | rfl | (simp only [List.length_drop, List.length_take]; rfl)) ?_; (with_reducible refine (impl_isDigits.calls a0 0 1300 false _ A6.out).mono ?_); rintro e w12 ⟨rfl, hb⟩; refine ⟨_, rfl, ?_⟩; have n0_ := Aside0.mk (blk_below (g := gb101) (o := .cells #[.string a0] 9 (0, 0)) (by (with_reducible repeat (first | refine blk_drewN ?_ _ | refine blk_drew ?_ | refine blk_alloc ?_ _)); exact BK101.out) hb); have n1_ := Aside0.mk (below_step (by repeat (first | (with_reducible first | exact HB.out | apply below_alloc | apply pw_below_drewN | apply below_drew1 | refine below_set ?_ GE101.out) | exact HB.out)) hb); clear BK101; clear HB; have BK101 := n0_; have HB := n1_; clear n0_ n1_; (try clear hb); (try clear hb2); (try clear hk); (try clear hi)))
   go_meet
   case rel => exact ⟨_, (true), (by first | rfl | (simp; done) | (simp [*]; done)), H', ⟨by first | omega | exact Nat.le_refl _⟩, ⟨by (with_reducible repeat (first | refine blk_drewN ?_ _ | refine blk_drew ?_ | refine blk_alloc ?_ _)); exact BK101.out⟩, ⟨by repeat (first | (with_reducible first | exact HB.out | apply below_alloc | apply pw_below_drewN | apply below_drew1 | refine below_set ?_ GE101.out) | exact HB.out)⟩⟩
 case rest =>
  clear HC4
  try clear p2
  try clear c4
  try clear c7
  try clear hcz11_0
  try clear hcz9_0
  try clear hfz11_0
  try clear hfz9_0
  obtain ⟨kq, x16_3, rfl, HA, HJ3, BK101, HB⟩ := hcut
  cases kq with
  | zero => exact absurd HA.out (by simp [impl_DoesOpenAll.j0])
  | succ kj3 =>
   have H := HA.out
   clear HA
   simp only [impl_DoesOpenAll.j0] at H
   by_cases c13 : x16_3 = true
   ·
    subst c13
    have H1 : (some (false, false)) = some (r1, r2) := by rw [if_pos rfl] at H; exact H
    clear H
    have H := H1
    clear H1
    simp only [Option.some.injEq, Prod.mk.injEq] at H
    obtain ⟨rfl, rfl⟩ := H
    go_wp2
    go_ret2
    exact ⟨by first | rfl | (simp [errW_none, errW_some] <;> rfl) | (simp [*, errW_none, errW_some] <;> rfl), by repeat (first | (with_reducible first | exact HB.out | apply below_alloc | apply pw_below_drewN | apply below_drew1 | refine below_set ?_ GE101.out) | exact HB.out)⟩
   ·
    replace c13 := Bool.eq_false_iff.mpr c13
    subst c13
    have H1 : ((impl_allTexts.f kj3 a1 a2).bind fun t104 => ((slices_ContainsFunc_string_string.f kj3 t104 (fun z0_ => impl_DoesOpenAll_1.f z0_ a0)).bind fun t107 => (some (!t107, true)))) = some (r1, r2) := by rw [if_neg (show ¬ (false = true) by decide)] at H; exact H
    clear H
    have H := H1
    clear H1
    replace H := Option.bind_eq_some_iff.mp H
    obtain ⟨t104, A140, H⟩ := H
    replace H : ((slices_ContainsFunc_string_string.f kj3 t104 (fun z0_ => impl_DoesOpenAll_1.f z0_ a0)).bind fun t107 => (some (!t107, true))) = some (r1, r2) := H
    have A14 := Aside0.mk A140
    clear A140
    replace H := Option.bind_eq_some_iff.mp H
    obtain ⟨t107, A150, H⟩ := H
    replace H : (some (!t107, true)) = some (r1, r2) := H
    have A15 := Aside0.mk A150
    clear A150
    simp only [Option.some.injEq, Prod.mk.injEq] at H
    obtain ⟨rfl, rfl⟩ := H
    go_wp2_with (first | ((with_reducible refine gate_callee (f := 71) rfl ?_); refine goesL_ (some 19) rfl rfl Tryd.func71 (by kernel_rfl) rfl #[.int .i64 a1, .int .i64 a2] rfl (by (try simp only [List.map_toArray, List.map_cons, List.map_nil]); first | done | rfl | (simp only [List.length_drop, List.length_take]; rfl)) ?_; (with_reducible refine (impl_allTexts.calls kj3 a1 a2 t104 _ A14.out).mono ?_); rintro e w16 ⟨v105, rfl, ho0, hb⟩; refine ⟨_, rfl, ?_⟩; have n0_ := Aside0.mk (Kd.R_lower (Kd.R_newB ho0 (g := gb101) (o := .cells #[.string a0] 9 (0, 0)) (by (with_reducible repeat (first | refine blk_drewN ?_ _ | refine blk_drew ?_ | refine blk_alloc ?_ _)); exact BK101.out)) (below_size (by repeat (first | (with_reducible first | exact HB.out | apply below_alloc | apply pw_below_drewN | apply below_drew1 | refine below_set ?_ GE101.out) | exact HB.out)))); have n1_ := Aside0.mk (blk_below (g := gb101) (o := .cells #[.string a0] 9 (0, 0)) (by (with_reducible repeat (first | refine blk_drewN ?_ _ | refine blk_drew ?_ | refine blk_alloc ?_ _)); exact BK101.out) hb); have n2_ := Aside0.mk (below_step (by repeat (first | (with_reducible first | exact HB.out | apply below_alloc | apply pw_below_drewN | apply below_drew1 | refine below_set ?_ GE101.out) | exact HB.out)) hb); clear BK101; clear HB; have HO106 := n0_; have BK101 := n1_; have HB := n2_; clear n0_ n1_ n2_; (try clear hb); (try clear hb2); (try clear hk); (try clear hi); (try clear ho0); obtain ⟨Ao17, co17, eo17⟩ := Kd.R_slice HO106.out; subst eo17) | (go_at_call 70; (with_reducible refine (slices_ContainsFunc_string_string.calls kj3 _ _ t104 (fun z0_ => impl_DoesOpenAll_1.f z0_ a0) 72 #[.pointer (some ⟨gb101, 0, none⟩)] t107 _ ?side1 ?side2 ?side3 ?side4 A15.out).mono ?_); (case side1 => repeat (first | exact (Kd.R_reads' HO106.out).2.2 | (with_reducible refine Kd.C_alloc ?_ _) | (with_reducible refine Kd.C_drewN ?_ _) | (with_reducible refine Kd.C_drew ?_))); (case side2 => exact (Kd.R_reads' HO106.out).2.1); (case side3 => exact enters_of Tryd.func72 (by kernel_rfl) rfl); (case side4 => exact fun W_ z0_ t_ h_ hb_ => (impl_DoesOpenAll_1.calls z0_ gb101 a0 t_ W_ (blk_below (by (with_reducible repeat (first | refine blk_drewN ?_ _ | refine blk_drew ?_ | refine blk_alloc ?_ _)); exact BK101.out) hb_) (by have h1_ := hb_.cell (World.block_lt_of_cell? _ _ (by first | exact HML.out | exact (HB.out.cell (World.block_lt_of_cell? _ _ HML.out)).trans HML.out)); exact ⟨_, h1_.trans (by first | exact HML.out | exact (HB.out.cell (World.block_lt_of_cell? _ _ HML.out)).trans HML.out)⟩) h_).mono fun e_ W2_ he_ => ⟨he_.1, he_.2.below⟩); rintro e w18 ⟨rfl, hb⟩; have n0_ := Aside0.mk (Kd.R_below (by (with_reducible repeat (first | apply Kd.R_alloc | apply Kd.R_drewN | apply Kd.R_drew)); exact HO106.out) hb); have n1_ := Aside0.mk (blk_below (g := gb101) (o := .cells #[.string a0] 9 (0, 0)) (by (with_reducible repeat (first | refine blk_drewN ?_ _ | refine blk_drew ?_ | refine blk_alloc ?_ _)); exact BK101.out) hb); have n2_ := Aside0.mk (below_step (by repeat (first | (with_reducible first | exact HB.out | apply below_alloc | apply pw_below_drewN | apply below_drew1 | refine below_set ?_ GE101.out) | exact HB.out)) hb); clear HO106; clear BK101; clear HB; have HO106 := n0_; have BK101 := n1_; have HB := n2_; clear n0_ n1_ n2_; (try clear hb); (try clear hb2); (try clear hk); (try clear hi)))
    go_ret2
    exact ⟨by first | rfl | (simp [errW_none, errW_some] <;> rfl) | (simp [*, errW_none, errW_some] <;> rfl), by repeat (first | (with_reducible first | exact HB.out | apply below_alloc | apply pw_below_drewN | apply below_drew1 | refine below_set ?_ GE101.out) | exact HB.out)⟩

end Go.Proofs.YtjnkfnabbekinaaDoor.P

-- printed by xprint.py
namespace Go.Proofs.YtjnkfnabbekinaaDoor.P
open Go.RowKit Go.Proofs.YtjnkfnabbekinaaDoorW.PrintWords Go.Proofs.YtjnkfnabbekinaaDoorW.PrintLast Go.Proofs.YtjnkfnabbekinaaDoorW.PrintMore
attribute [local go_sem] max2_int min2_int max_two min_two max_three min_three max_four min_four   -- for this text's walks alone
set_option linter.unusedVariables false
set_option linter.unusedSimpArgs false

/-! ### spec_l1Num: function 46 -/
def spec_l1Num.f : Nat → Int → Option (ByteArray)
 | 0, _ => none
 | k + 1, a0 => if a0 < 10 then (some (strOfNums (([(wrap64 (48 + a0)) % 256] : List Int)))) else ((spec_l1Num.f k (wrap64 (Int.tdiv a0 10))).bind fun t104 => ((some (([(wrap64 (48 + (Int.tmod a0 10))) % 256] : List Int) : List Int)).bind fun y105 => (if t104.size + (strOfNums y105).size ≤ 9223372036854775807 then (some (t104 ++ (strOfNums y105))) else (none))))
theorem spec_l1Num.mono_l : ∀ k, (∀ y0, LeO (spec_l1Num.f k y0) (spec_l1Num.f (k + 1) y0))
 | 0 => by intros; intro r h; simp [spec_l1Num.f] at h
 | k + 1 => by
  have ih0 := spec_l1Num.mono_l k
  ·
   intro y0
   unfold spec_l1Num.f
   repeat' first
   | (with_reducible exact ih0 _)
   | (with_reducible exact LeO.refl _)
   | (with_reducible exact LeO.none _)
   | (with_reducible refine LeO.ite ?_ ?_)
   | (with_reducible refine LeO.bind ?_ (fun _ => ?_))
   | exact ih0 _
   | exact LeO.none _
   | refine LeO.ite ?_ ?_
   | refine LeO.bind ?_ (fun _ => ?_)
theorem spec_l1Num.mono : ∀ y0 k, LeO (spec_l1Num.f k y0) (spec_l1Num.f (k + 1) y0) := by
 intro y0 k
 have ih0 := spec_l1Num.mono_l k
 exact ih0 y0
def spec_l1Num.T3 : Bool × List (List Nat × List Nat) := (true, [([], []), ([0], [0]), ([1], [1]), ([], []), ([3], [3]), ([4], [4]), ([5], [5]), ([6], [6]), ([7], [7]), ([2, 8], [2, 8]), ([9, 2, 0, 1, 2, 3, 4, 5, 6, 7, 8, 9], [9])])
def spec_l1Num.B3 : List Nat := [0, 1, 3, 0, 8, 24, 56, 120, 248, 511, 1023]
theorem spec_l1Num.tab3 : rtab .any (opsOf Tryd.f46 3) = spec_l1Num.T3 := by kernel_rfl
theorem spec_l1Num.bits3 : waitsOk spec_l1Num.T3.2 spec_l1Num.B3 = true := by kernel_rfl
set_option maxHeartbeats 8000000 in
set_option maxRecDepth 100000 in
theorem spec_l1Num.calls (k : Nat) : ∀ (a0 : Int) (r : ByteArray) (w : World) (h : spec_l1Num.f k a0 = some r),
  Calls Tryd.prog 46 #[.int .i64 a0] w fun e w' => e = .returned (.string r) ∧ Below w.heap.size w w' := by
 induction k using Nat.strongRecOn with
 | _ k ih =>
 intro a0 r w h
 cases k with
 | zero => exact absurd h (by simp [spec_l1Num.f])
 | succ k =>
 simp only [spec_l1Num.f] at h
 have HB := Aside0.mk (Below.refl w.heap.size w)
 have H : (if a0 < 10 then (some (strOfNums (([(wrap64 (48 + a0)) % 256] : List Int)))) else ((spec_l1Num.f k (wrap64 (Int.tdiv a0 10))).bind fun t104 => ((some (([(wrap64 (48 + (Int.tmod a0 10))) % 256] : List Int) : List Int)).bind fun y105 => (if t104.size + (strOfNums y105).size ≤ 9223372036854775807 then (some (t104 ++ (strOfNums y105))) else (none))))) = some r := h
 clear h
 by_cases c2 : a0 < 10
 ·
  rw [if_pos c2] at H
  have c2b0 : decide (a0 < 10) = true := decide_eq_true c2
  clear c2
  obtain ⟨y101, hy101⟩ : ∃ y_ : List Int, y_ = (([(wrap64 (48 + a0)) % 256] : List Int)) := ⟨_, rfl⟩
  replace H : (some (strOfNums y101)) = some r := by first | (rw [hy101]; with_reducible exact H) | (have H2_ := (Option.bind_some _ _).symm.trans H; rw [hy101]; with_reducible exact H2_) | (have H2_ := (Option.bind_some _ _).symm.trans H; with_reducible exact H2_) | with_reducible exact H | (rw [hy101]; exact H) | exact H
  have Ny101 := Aside0.mk hy101
  clear hy101
  obtain rfl := Option.some.inj H
  go_enter Tryd.func46, Tryd.ntmps46
  go_wp2_with (first | ((with_reducible refine gate_dst (N := 8) rfl ?_); refine Kd.R_lit (Kd.int .u8) _ 5 ?hg (N := 8) ?hd (xs := ([(wrap64 (48 + a0)) % 256] : List Int)) (inner := [.int .u8 ((wrap64 (48 + a0)) % 256)]) (ok := fun _ => True) (okp := fun _ => True) ?hr ?hp (fun _ hk => hk) trivial (Below.refl _ _) (Nat.le_refl _) (by simp) ?_; (case hd => rfl); (case hg => rfl); (case hr => first | (go_simp; done) | (go_simp; rfl)); (case hp => exact (Reps.one (show Kd.M (Kd.int .u8) _ _ _ ((wrap64 (48 + a0)) % 256) [.int .u8 ((wrap64 (48 + a0)) % 256)] from rfl) (Reps.none _ _))); intro v102 w3 ho4 hb hg_ hnew_; clear hg_ hnew_; (first | rw [← Ny101.out] at ho4 | (simp only [Int.reduceToNat] at ho4; rw [← Ny101.out] at ho4)); have n0_ := Aside0.mk (Kd.R_lower ho4 (below_size (by repeat (first | (with_reducible first | exact HB.out | apply below_alloc | apply pw_below_drewN | apply below_drew1) | exact HB.out)))); have n1_ := Aside0.mk (below_step (by repeat (first | (with_reducible first | exact HB.out | apply below_alloc | apply pw_below_drewN | apply below_drew1) | exact HB.out)) hb); clear HB; have HO103 := n0_; have HB := n1_; clear n0_ n1_; clear hb ho4; have hcv5 := own_string (P := Tryd.prog) Tryd.underlying72 Tryd.underlying5 Tryd.underlying9 (Kd.own_of_R HO103.out)))
  go_ret
  exact ⟨by first | rfl | (simp [errW_none, errW_some] <;> rfl) | (simp [*, errW_none, errW_some] <;> rfl), by repeat (first | (with_reducible first | exact HB.out | apply below_alloc | apply pw_below_drewN | apply below_drew1) | exact HB.out)⟩
 ·
  rw [if_neg c2] at H
  have c2b0 : decide (a0 < 10) = false := decide_eq_false c2
  clear c2
  replace H := Option.bind_eq_some_iff.mp H
  obtain ⟨t104, A60, H⟩ := H
  replace H : ((some (([(wrap64 (48 + (Int.tmod a0 10))) % 256] : List Int) : List Int)).bind fun y105 => (if t104.size + (strOfNums y105).size ≤ 9223372036854775807 then (some (t104 ++ (strOfNums y105))) else (none))) = some r := H
  have A6 := Aside0.mk A60
  clear A60
  obtain ⟨y105, hy105⟩ : ∃ y_ : List Int, y_ = (([(wrap64 (48 + (Int.tmod a0 10))) % 256] : List Int)) := ⟨_, rfl⟩
  replace H : (if t104.size + (strOfNums y105).size ≤ 9223372036854775807 then (some (t104 ++ (strOfNums y105))) else (none)) = some r := by first | (rw [hy105]; with_reducible exact H) | (have H2_ := (Option.bind_some _ _).symm.trans H; rw [hy105]; with_reducible exact H2_) | (have H2_ := (Option.bind_some _ _).symm.trans H; with_reducible exact H2_) | with_reducible exact H | (rw [hy105]; exact H) | exact H
  have Ny105 := Aside0.mk hy105
  clear hy105
  by_cases c7 : t104.size + (strOfNums y105).size ≤ 9223372036854775807
  ·
   rw [if_pos c7] at H
   have c7b0 := eq_true c7
   have c7b1 : decide (t104.size + (strOfNums y105).size ≤ 9223372036854775807) = true := decide_eq_true c7
   try have c7b2 : (9223372036854775807 < t104.size + (strOfNums y105).size) = False := eq_false (Nat.not_lt.2 c7)
   obtain rfl := Option.some.inj H
   go_enter Tryd.func46, Tryd.ntmps46
   try go_wp2
   have n0_ := Aside0.mk (below_drew1 HB.out)
   clear HB
   have HB := n0_
   clear n0_
   refine start_ (n := 11) (S := fun w' => True) (ds := []) #[false, false, false, false, false, false, false, false, false, false, false] (by kernel_rfl) rfl rfl trivial (fun hHeld => ?_); refine with_tabW spec_l1Num.tab3 spec_l1Num.bits3 (fun HT_ HW_ => ?_)
   (first | (rw [drewN_self w]; generalize hq_ : (World.drewN w _).drew = w8 at hHeld ⊢; clear HB; have HB : Aside0 (Below w.heap.size w w8) := ⟨by rw [← hq_]; exact below_drew1 (pw_below_drewN (Below.refl w.heap.size w) _)⟩; clear hq_) | (generalize w.drew = w8 at HB hHeld ⊢))
   refine pure_ (i := 0) (N := some 10) (v := ?_) (a' := ?_) #[true, false, false, false, false, false, false, false, false, false, false] rfl rfl (any_of HT_.out (by kernel_rfl)) (fun _ _ _ h => h) (Or.inl ⟨by rfl, ?_⟩) ?_ ?_
   rotate_left
   ·
    intro w'
    go_simp
    with_reducible rfl
   rotate_left
   ·
    simp only [Act.put, List.setIfInBounds_toArray, List.set_cons_zero, List.set_cons_succ, i64_w, i32_w]
    rfl
   refine pure_ (i := 1) (N := some 11) (v := ?_) (a' := ?_) #[true, true, false, false, false, false, false, false, false, false, false] rfl rfl (any_of HT_.out (by kernel_rfl)) (fun _ _ _ h => h) (Or.inl ⟨by rfl, ?_⟩) ?_ ?_
   rotate_left
   ·
    intro w'
    go_simp
    with_reducible rfl
   rotate_left
   ·
    simp only [Act.put, List.setIfInBounds_toArray, List.set_cons_zero, List.set_cons_succ, i64_w, i32_w]
    rfl
   refine pure_ (i := 3) (N := some 13) (v := ?_) (a' := ?_) #[true, true, false, true, false, false, false, false, false, false, false] rfl rfl (any_of HT_.out (by kernel_rfl)) (fun _ _ _ h => h) (Or.inl ⟨by rfl, ?_⟩) ?_ ?_
   rotate_left
   ·
    intro w'
    go_simp
    with_reducible rfl
   rotate_left
   ·
    simp only [Act.put, List.setIfInBounds_toArray, List.set_cons_zero, List.set_cons_succ, i64_w, i32_w]
    rfl
   refine pure_ (i := 4) (N := some 14) (v := ?_) (a' := ?_) #[true, true, false, true, true, false, false, false, false, false, false] rfl rfl (any_of HT_.out (by kernel_rfl)) (fun _ _ _ h => h) (Or.inl ⟨by rfl, ?_⟩) ?_ ?_
   rotate_left
   ·
    intro w'
    go_simp
    with_reducible rfl
   rotate_left
   ·
    simp only [Act.put, List.setIfInBounds_toArray, List.set_cons_zero, List.set_cons_succ, i64_w, i32_w]
    rfl
   refine pure_ (i := 5) (N := some 15) (v := ?_) (a' := ?_) #[true, true, false, true, true, true, false, false, false, false, false] rfl rfl (any_of HT_.out (by kernel_rfl)) (fun _ _ _ h => h) (Or.inl ⟨by rfl, ?_⟩) ?_ ?_
   rotate_left
   ·
    intro w'
    go_simp
    with_reducible rfl
   rotate_left
   ·
    simp only [Act.put, List.setIfInBounds_toArray, List.set_cons_zero, List.set_cons_succ, i64_w, i32_w]
    rfl
   refine pure_ (i := 6) (N := some 16) (v := ?_) (a' := ?_) #[true, true, false, true, true, true, true, false, false, false, false] rfl rfl (any_of HT_.out (by kernel_rfl)) (fun _ _ _ h => h) (Or.inl ⟨by rfl, ?_⟩) ?_ ?_
   rotate_left
   ·
    intro w'
    go_simp
    with_reducible rfl
   rotate_left
   ·
    simp only [Act.put, List.setIfInBounds_toArray, List.set_cons_zero, List.set_cons_succ, i64_w, i32_w]
    rfl
   refine join_ (σ := Value) 2 #[true, true, true, true, true, true, true, true, true, false, false] (fun s_ => [(12, .string t104), (17, s_), (18, .string (strOfNums y105))]) (fun s_ w' => (Kd.R (Kd.int .u8) 5 w' w.heap.size (fun _ => True) s_ y105) ∧ (Below w.heap.size w w')) ?_ ?_
   rotate_left
   ·
    intro hCont
    refine two_ (i := 2) (j := 7) (Ni := some 12) (Nj := some 17) #[true, true, true, true, true, true, true, false, false, false, false] #[true, true, false, true, true, true, true, true, false, false, false] rfl rfl rfl rfl (two_of HT_.out (by kernel_rfl)) (by decide) (by decide) (fun K hK => ?_) (fun K hK => ?_)
    ·
     skip
     refine goes_ Tryd.func46 (by kernel_rfl) rfl #[.int .i64 (wrap64 (Int.tdiv a0 10))] (by rfl) rfl rfl (by (try simp only [List.map_toArray, List.map_cons, List.map_nil]); first | done | rfl | (simp only [List.length_drop, List.length_take]; rfl)) ?_
     with_reducible refine (ih k (by omega) (wrap64 (Int.tdiv a0 10)) t104 _ A6.out).mono ?_
     rintro e w9 ⟨rfl, hb⟩
     refine ⟨_, rfl, ?_⟩
     have n0_ := Aside0.mk (below_step (by repeat (first | (with_reducible first | exact HB.out | apply below_alloc | apply pw_below_drewN | apply below_drew1) | exact HB.out)) hb)
     clear HB
     have HB := n0_
     clear n0_
     (try clear hb)
     (try clear hb2)
     (try clear hk)
     (try clear hi)
     refine hK.out _ _ trivial (fun hHeld => ?_)
     clear hK K
     refine norm_ (a' := ?_) ?_ ?_
     rotate_left
     ·
      show Act.put _ (some 12) _ = _
      simp only [Act.put, List.setIfInBounds_toArray, List.set_cons_zero, List.set_cons_succ, i64_w, i32_w]
      rfl
     refine one_ (i := 7) (N := some 17) #[true, true, true, true, true, true, true, true, false, false, false] rfl rfl (one_of HT_.out (by kernel_rfl)) (by decide) (fun K hK => ?_)
     refine Kd.R_lit_step (Kd.int .u8) _ 5 ?hg (N := 17) ?hd (xs := ([(wrap64 (48 + (Int.tmod a0 10))) % 256] : List Int)) (inner := [.int .u8 ((wrap64 (48 + (Int.tmod a0 10))) % 256)]) (ok := fun _ => True) (okp := fun _ => True) ?hr ?hp (fun _ hk => hk) trivial (Below.refl _ _) (Nat.le_refl _) (by simp) ?_; (case hd => rfl); (case hg => rfl); (case hr => first | (go_simp; done) | (go_simp; rfl)); (case hp => exact (Reps.one (show Kd.M (Kd.int .u8) _ _ _ ((wrap64 (48 + (Int.tmod a0 10))) % 256) [.int .u8 ((wrap64 (48 + (Int.tmod a0 10))) % 256)] from rfl) (Reps.none _ _)))
     intro v106 w10 ho11 hb hg_ hnew_
     clear hg_ hnew_
     (first | rw [← Ny105.out] at ho11 | (simp only [Int.reduceToNat] at ho11; rw [← Ny105.out] at ho11))
     have n0_ := Aside0.mk (Kd.R_lower ho11 (below_size (by repeat (first | (with_reducible first | exact HB.out | apply below_alloc | apply pw_below_drewN | apply below_drew1) | exact HB.out))))
     have n1_ := Aside0.mk (below_step (by repeat (first | (with_reducible first | exact HB.out | apply below_alloc | apply pw_below_drewN | apply below_drew1) | exact HB.out)) hb)
     clear HB
     have HO107 := n0_
     have HB := n1_
     clear n0_ n1_
     clear hb ho11
     refine hK.out _ _ trivial (fun hHeld => ?_)
     clear hK K
     refine norm_ (a' := ?_) ?_ ?_
     rotate_left
     ·
      show Act.put _ (some 17) _ = _
      simp only [Act.put, List.setIfInBounds_toArray, List.set_cons_zero, List.set_cons_succ, i64_w, i32_w]
      rfl
     refine one_ (i := 8) (N := some 18) #[true, true, true, true, true, true, true, true, true, false, false] rfl rfl (one_of HT_.out (by kernel_rfl)) (by decide) (fun K hK => ?_)
     have hcv12 := own_string (P := Tryd.prog) Tryd.underlying72 Tryd.underlying5 Tryd.underlying9 (Kd.own_of_R HO107.out)
     refine value_ (w1 := ?_) (v := ?_) (by rfl) rfl ?_ ?_
     rotate_left 2
     ·
      go_simp
      constructor
      ·
       rfl
      ·
       rfl
     clear hcv12
     refine hK.out _ _ trivial (fun hHeld => ?_)
     clear hK K
     refine norm_ (a' := ?_) ?_ ?_
     rotate_left
     ·
      show Act.put _ (some 18) _ = _
      simp only [Act.put, List.setIfInBounds_toArray, List.set_cons_zero, List.set_cons_succ, i64_w, i32_w]
      rfl
     exact norm_ (by simp only [putAll, Act.put, List.setIfInBounds_toArray, List.set_cons_zero, List.set_cons_succ]) (hCont (v106) _ ⟨(by (with_reducible repeat (first | apply Kd.R_alloc | apply Kd.R_drewN | apply Kd.R_drew)); exact HO107.out), (by repeat (first | (with_reducible first | exact HB.out | apply below_alloc | apply pw_below_drewN | apply below_drew1) | exact HB.out))⟩)
    ·
     skip
     refine Kd.R_lit_step (Kd.int .u8) _ 5 ?hg (N := 17) ?hd (xs := ([(wrap64 (48 + (Int.tmod a0 10))) % 256] : List Int)) (inner := [.int .u8 ((wrap64 (48 + (Int.tmod a0 10))) % 256)]) (ok := fun _ => True) (okp := fun _ => True) ?hr ?hp (fun _ hk => hk) trivial (Below.refl _ _) (Nat.le_refl _) (by simp) ?_; (case hd => rfl); (case hg => rfl); (case hr => first | (go_simp; done) | (go_simp; rfl)); (case hp => exact (Reps.one (show Kd.M (Kd.int .u8) _ _ _ ((wrap64 (48 + (Int.tmod a0 10))) % 256) [.int .u8 ((wrap64 (48 + (Int.tmod a0 10))) % 256)] from rfl) (Reps.none _ _)))
     intro v106 w9 ho10 hb hg_ hnew_
     clear hg_ hnew_
     (first | rw [← Ny105.out] at ho10 | (simp only [Int.reduceToNat] at ho10; rw [← Ny105.out] at ho10))
     have n0_ := Aside0.mk (Kd.R_lower ho10 (below_size (by repeat (first | (with_reducible first | exact HB.out | apply below_alloc | apply pw_below_drewN | apply below_drew1) | exact HB.out))))
     have n1_ := Aside0.mk (below_step (by repeat (first | (with_reducible first | exact HB.out | apply below_alloc | apply pw_below_drewN | apply below_drew1) | exact HB.out)) hb)
     clear HB
     have HO107 := n0_
     have HB := n1_
     clear n0_ n1_
     clear hb ho10
     refine hK.out _ _ trivial (fun hHeld => ?_)
     clear hK K
     refine norm_ (a' := ?_) ?_ ?_
     rotate_left
     ·
      show Act.put _ (some 17) _ = _
      simp only [Act.put, List.setIfInBounds_toArray, List.set_cons_zero, List.set_cons_succ, i64_w, i32_w]
      rfl
     refine two_ (i := 2) (j := 8) (Ni := some 12) (Nj := some 18) #[true, true, true, true, true, true, true, true, false, false, false] #[true, true, false, true, true, true, true, true, true, false, false] rfl rfl rfl rfl (two_of HT_.out (by kernel_rfl)) (by decide) (by decide) (fun K hK => ?_) (fun K hK => ?_)
     ·
      skip
      refine goes_ Tryd.func46 (by kernel_rfl) rfl #[.int .i64 (wrap64 (Int.tdiv a0 10))] (by rfl) rfl rfl (by (try simp only [List.map_toArray, List.map_cons, List.map_nil]); first | done | rfl | (simp only [List.length_drop, List.length_take]; rfl)) ?_
      with_reducible refine (ih k (by omega) (wrap64 (Int.tdiv a0 10)) t104 _ A6.out).mono ?_
      rintro e w11 ⟨rfl, hb⟩
      refine ⟨_, rfl, ?_⟩
      have n0_ := Aside0.mk (Kd.R_below (by (with_reducible repeat (first | apply Kd.R_alloc | apply Kd.R_drewN | apply Kd.R_drew)); exact HO107.out) hb)
      have n1_ := Aside0.mk (below_step (by repeat (first | (with_reducible first | exact HB.out | apply below_alloc | apply pw_below_drewN | apply below_drew1) | exact HB.out)) hb)
      clear HO107
      clear HB
      have HO107 := n0_
      have HB := n1_
      clear n0_ n1_
      (try clear hb)
      (try clear hb2)
      (try clear hk)
      (try clear hi)
      refine hK.out _ _ trivial (fun hHeld => ?_)
      clear hK K
      refine norm_ (a' := ?_) ?_ ?_
      rotate_left
      ·
       show Act.put _ (some 12) _ = _
       simp only [Act.put, List.setIfInBounds_toArray, List.set_cons_zero, List.set_cons_succ, i64_w, i32_w]
       rfl
      refine one_ (i := 8) (N := some 18) #[true, true, true, true, true, true, true, true, true, false, false] rfl rfl (one_of HT_.out (by kernel_rfl)) (by decide) (fun K hK => ?_)
      have hcv12 := own_string (P := Tryd.prog) Tryd.underlying72 Tryd.underlying5 Tryd.underlying9 (Kd.own_of_R HO107.out)
      refine value_ (w1 := ?_) (v := ?_) (by rfl) rfl ?_ ?_
      rotate_left 2
      ·
       go_simp
       constructor
       ·
        rfl
       ·
        rfl
      clear hcv12
      refine hK.out _ _ trivial (fun hHeld => ?_)
      clear hK K
      refine norm_ (a' := ?_) ?_ ?_
      rotate_left
      ·
       show Act.put _ (some 18) _ = _
       simp only [Act.put, List.setIfInBounds_toArray, List.set_cons_zero, List.set_cons_succ, i64_w, i32_w]
       rfl
      exact norm_ (by simp only [putAll, Act.put, List.setIfInBounds_toArray, List.set_cons_zero, List.set_cons_succ]) (hCont (v106) _ ⟨(by (with_reducible repeat (first | apply Kd.R_alloc | apply Kd.R_drewN | apply Kd.R_drew)); exact HO107.out), (by repeat (first | (with_reducible first | exact HB.out | apply below_alloc | apply pw_below_drewN | apply below_drew1) | exact HB.out))⟩)
     ·
      skip
      have hcv11 := own_string (P := Tryd.prog) Tryd.underlying72 Tryd.underlying5 Tryd.underlying9 (Kd.own_of_R HO107.out)
      refine value_ (w1 := ?_) (v := ?_) (by rfl) rfl ?_ ?_
      rotate_left 2
      ·
       go_simp
       constructor
       ·
        rfl
       ·
        rfl
      clear hcv11
      refine hK.out _ _ trivial (fun hHeld => ?_)
      clear hK K
      refine norm_ (a' := ?_) ?_ ?_
      rotate_left
      ·
       show Act.put _ (some 18) _ = _
       simp only [Act.put, List.setIfInBounds_toArray, List.set_cons_zero, List.set_cons_succ, i64_w, i32_w]
       rfl
      refine one_ (i := 2) (N := some 12) #[true, true, true, true, true, true, true, true, true, false, false] rfl rfl (one_of HT_.out (by kernel_rfl)) (by decide) (fun K hK => ?_)
      refine goes_ Tryd.func46 (by kernel_rfl) rfl #[.int .i64 (wrap64 (Int.tdiv a0 10))] (by rfl) rfl rfl (by (try simp only [List.map_toArray, List.map_cons, List.map_nil]); first | done | rfl | (simp only [List.length_drop, List.length_take]; rfl)) ?_
      with_reducible refine (ih k (by omega) (wrap64 (Int.tdiv a0 10)) t104 _ A6.out).mono ?_
      rintro e w12 ⟨rfl, hb⟩
      refine ⟨_, rfl, ?_⟩
      have n0_ := Aside0.mk (Kd.R_below (by (with_reducible repeat (first | apply Kd.R_alloc | apply Kd.R_drewN | apply Kd.R_drew)); exact HO107.out) hb)
      have n1_ := Aside0.mk (below_step (by repeat (first | (with_reducible first | exact HB.out | apply below_alloc | apply pw_below_drewN | apply below_drew1) | exact HB.out)) hb)
      clear HO107
      clear HB
      have HO107 := n0_
      have HB := n1_
      clear n0_ n1_
      (try clear hb)
      (try clear hb2)
      (try clear hk)
      (try clear hi)
      refine hK.out _ _ trivial (fun hHeld => ?_)
      clear hK K
      refine norm_ (a' := ?_) ?_ ?_
      rotate_left
      ·
       show Act.put _ (some 12) _ = _
       simp only [Act.put, List.setIfInBounds_toArray, List.set_cons_zero, List.set_cons_succ, i64_w, i32_w]
       rfl
      exact norm_ (by simp only [putAll, Act.put, List.setIfInBounds_toArray, List.set_cons_zero, List.set_cons_succ]) (hCont (v106) _ ⟨(by (with_reducible repeat (first | apply Kd.R_alloc | apply Kd.R_drewN | apply Kd.R_drew)); exact HO107.out), (by repeat (first | (with_reducible first | exact HB.out | apply below_alloc | apply pw_below_drewN | apply below_drew1) | exact HB.out))⟩)
   rintro v106 w13 ⟨h0_, h1_⟩
   have n0_ : Aside0 (Kd.R (Kd.int .u8) 5 w13 w.heap.size (fun _ => True) v106 y105) := ⟨h0_⟩
   have n1_ : Aside0 (Below w.heap.size w w13) := ⟨h1_⟩
   clear HB
   clear h0_ h1_
   have HO107 := n0_
   have HB := n1_
   clear n0_ n1_
   have hHeld := trivial
   refine norm_ (a' := ?_) ?_ ?_
   rotate_left
   ·
    simp only [putAll, Act.put, List.setIfInBounds_toArray, List.set_cons_zero, List.set_cons_succ]
    rfl
   refine pure_ (i := 9) (N := some 19) (v := ?_) (a' := ?_) #[true, true, true, true, true, true, true, true, true, true, false] rfl rfl (any_of HT_.out (by kernel_rfl)) (fun _ _ _ h => h) (Or.inl ⟨by rfl, ?_⟩) ?_ ?_
   rotate_left
   ·
    intro w'
    go_simp
    with_reducible rfl
   rotate_left
   ·
    simp only [Act.put, List.setIfInBounds_toArray, List.set_cons_zero, List.set_cons_succ, i64_w, i32_w]
    rfl
   refine pure_ (i := 10) (N := some 2) (v := ?_) (a' := ?_) #[true, true, true, true, true, true, true, true, true, true, true] rfl rfl (any_of HT_.out (by kernel_rfl)) (fun _ _ _ h => h) (Or.inl ⟨by rfl, ?_⟩) ?_ ?_
   rotate_left
   ·
    intro w'
    go_simp
    with_reducible rfl
   rotate_left
   ·
    simp only [Act.put, List.setIfInBounds_toArray, List.set_cons_zero, List.set_cons_succ, i64_w, i32_w]
    rfl
   refine done_ (done_of HT_.out (by kernel_rfl)) ?_
   try go_wp2
   go_ret
   exact ⟨by first | rfl | (simp [errW_none, errW_some] <;> rfl) | (simp [*, errW_none, errW_some] <;> rfl), by repeat (first | (with_reducible first | exact HB.out | apply below_alloc | apply pw_below_drewN | apply below_drew1) | exact HB.out)⟩
  ·
   rw [if_neg c7] at H
   exact absurd H (by simp)

end Go.Proofs.YtjnkfnabbekinaaDoor.P

-- printed by xprint.py
namespace Go.Proofs.YtjnkfnabbekinaaDoor.P
open Go.RowKit Go.Proofs.YtjnkfnabbekinaaDoorW.PrintWords Go.Proofs.YtjnkfnabbekinaaDoorW.PrintLast Go.Proofs.YtjnkfnabbekinaaDoorW.PrintMore
attribute [local go_sem] max2_int min2_int max_two min_two max_three min_three max_four min_four   -- for this text's walks alone
set_option linter.unusedVariables false
set_option linter.unusedSimpArgs false

/-! ### spec_l1In: function 45 -/
def spec_l1In.f (a0 : Int) (a1 : Int) (a2 : Int) : Option (Bool) := if a0 ≥ a1 then (some (decide (a0 ≤ a2))) else (some false)
set_option maxHeartbeats 8000000 in
set_option maxRecDepth 100000 in
theorem spec_l1In.calls (a0 : Int) (a1 : Int) (a2 : Int) (r : Bool) (w : World) (h : spec_l1In.f a0 a1 a2 = some r) :
  Calls Tryd.prog 45 #[.int .i64 a0, .int .i64 a1, .int .i64 a2] w fun e w' => e = .returned (.bool r) ∧ Drawn0 w w' := by
 have H : (if a0 ≥ a1 then (some (decide (a0 ≤ a2))) else (some false)) = some r := h
 clear h
 by_cases c4 : a0 ≥ a1
 ·
  rw [if_pos c4] at H
  have c4b0 : decide (a1 ≤ a0) = true := decide_eq_true c4
  clear c4
  obtain rfl := Option.some.inj H
  go_enter Tryd.func45, Tryd.ntmps45
  go_wp2
  go_ret
  exact ⟨by first | rfl | (simp; done) | (simp [*]; done), by repeat (first | exact Drawn0.refl _ | apply Drawn0.step)⟩
 ·
  rw [if_neg c4] at H
  have c4b0 : decide (a1 ≤ a0) = false := decide_eq_false c4
  clear c4
  obtain rfl := Option.some.inj H
  go_enter Tryd.func45, Tryd.ntmps45
  go_wp2
  go_ret
  exact ⟨by first | rfl | (simp; done) | (simp [*]; done), by repeat (first | exact Drawn0.refl _ | apply Drawn0.step)⟩

end Go.Proofs.YtjnkfnabbekinaaDoor.P

-- printed by xprint.py
namespace Go.Proofs.YtjnkfnabbekinaaDoor.P
open Go.RowKit Go.Proofs.YtjnkfnabbekinaaDoorW.PrintWords Go.Proofs.YtjnkfnabbekinaaDoorW.PrintLast Go.Proofs.YtjnkfnabbekinaaDoorW.PrintMore
attribute [local go_sem] max2_int min2_int max_two min_two max_three min_three max_four min_four   -- for this text's walks alone
set_option linter.unusedVariables false
set_option linter.unusedSimpArgs false

/-! ### spec_piAll: function 68 -/
mutual
def spec_piAll.j0 : Nat → Int → Int → Bool → Option (Int)
 | 0, _, _, _ => none
 | k + 1, x0, x1, x13 => if x13 = true then (some (-1)) else (spec_piAll.l0 k x0 x1 1)
def spec_piAll.l0 : Nat → Int → Int → Int → Option (Int)
 | 0, _, _, _ => none
 | k + 1, x0, x1, x5 => if x1 > 0 then (spec_piAll.l0 k x0 (wrap64 (x1 - 1)) (wrap64 (x5 * x0))) else (if x5 > 300 then (some (-1)) else (some x5))
end
def spec_piAll.f (k : Nat) (a0 : Int) (a1 : Int) : Option (Int) := (spec_l1In.f a0 1 10).bind fun t101 => (if t101 = true then ((spec_l1In.f a1 2 4).bind fun t102 => (spec_piAll.j0 k a0 a1 (!t102))) else (spec_piAll.j0 k a0 a1 true))
theorem spec_piAll.mono_l : ∀ k, (∀ y0 y1 y2, LeO (spec_piAll.j0 k y0 y1 y2) (spec_piAll.j0 (k + 1) y0 y1 y2)) ∧ (∀ y0 y1 y2, LeO (spec_piAll.l0 k y0 y1 y2) (spec_piAll.l0 (k + 1) y0 y1 y2))
 | 0 => ⟨by intros; intro r h; simp [spec_piAll.j0] at h, by intros; intro r h; simp [spec_piAll.l0] at h⟩
 | k + 1 => by
  obtain ⟨ih0, ih1⟩ := spec_piAll.mono_l k
  refine ⟨?_, ?_⟩
  ·
   intro y0 y1 y2
   unfold spec_piAll.j0
   repeat' first
   | (with_reducible exact ih0 _ _ _)
   | (with_reducible exact ih1 _ _ _)
   | (with_reducible exact LeO.refl _)
   | (with_reducible exact LeO.none _)
   | (with_reducible refine LeO.ite ?_ ?_)
   | (with_reducible refine LeO.bind ?_ (fun _ => ?_))
   | exact ih0 _ _ _
   | exact ih1 _ _ _
   | exact LeO.none _
   | refine LeO.ite ?_ ?_
   | refine LeO.bind ?_ (fun _ => ?_)
  ·
   intro y0 y1 y2
   unfold spec_piAll.l0
   repeat' first
   | (with_reducible exact ih0 _ _ _)
   | (with_reducible exact ih1 _ _ _)
   | (with_reducible exact LeO.refl _)
   | (with_reducible exact LeO.none _)
   | (with_reducible refine LeO.ite ?_ ?_)
   | (with_reducible refine LeO.bind ?_ (fun _ => ?_))
   | exact ih0 _ _ _
   | exact ih1 _ _ _
   | exact LeO.none _
   | refine LeO.ite ?_ ?_
   | refine LeO.bind ?_ (fun _ => ?_)
theorem spec_piAll.mono : ∀ y0 y1 k, LeO (spec_piAll.f k y0 y1) (spec_piAll.f (k + 1) y0 y1) := by
 intro y0 y1 k
 obtain ⟨ih0, ih1⟩ := spec_piAll.mono_l k
 unfold spec_piAll.f
 repeat' first
   | (with_reducible exact ih0 _ _ _)
   | (with_reducible exact ih1 _ _ _)
   | (with_reducible exact LeO.refl _)
   | (with_reducible exact LeO.none _)
   | (with_reducible refine LeO.ite ?_ ?_)
   | (with_reducible refine LeO.bind ?_ (fun _ => ?_))
   | exact ih0 _ _ _
   | exact ih1 _ _ _
   | exact LeO.none _
   | refine LeO.ite ?_ ?_
   | refine LeO.bind ?_ (fun _ => ?_)
set_option maxHeartbeats 8000000 in
set_option maxRecDepth 100000 in
theorem spec_piAll.calls (k : Nat) (a0 : Int) (a1 : Int) (r : Int) (w : World) (h : spec_piAll.f k a0 a1 = some r) :
  Calls Tryd.prog 68 #[.int .i64 a0, .int .i64 a1] w fun e w' => e = .returned (.int .i64 r) ∧ Drawn0 w w' := by
 have H : ((spec_l1In.f a0 1 10).bind fun t101 => (if t101 = true then ((spec_l1In.f a1 2 4).bind fun t102 => (spec_piAll.j0 k a0 a1 (!t102))) else (spec_piAll.j0 k a0 a1 true))) = some r := h
 clear h
 have HC3 := Aside0.mk H
 clear H
 go_enter Tryd.func68, Tryd.ntmps68
 go_upto_region 1 with (fail)
 go_cut [13] (fun v13 wc => ∃ (kq : Nat) (x13_2 : Bool), v13 = .bool x13_2 ∧ Aside0 (spec_piAll.j0 kq a0 a1 x13_2 = some r) ∧ Aside0 (kq ≤ k) ∧ Drawn0 w wc)
 case first =>
  have H := HC3.out
  clear HC3
  replace H := Option.bind_eq_some_iff.mp H
  obtain ⟨t101, A40, H⟩ := H
  replace H : (if t101 = true then ((spec_l1In.f a1 2 4).bind fun t102 => (spec_piAll.j0 k a0 a1 (!t102))) else (spec_piAll.j0 k a0 a1 true)) = some r := H
  have A4 := Aside0.mk A40
  clear A40
  by_cases c5 : t101 = true
  ·
   subst c5
   have H1 : ((spec_l1In.f a1 2 4).bind fun t102 => (spec_piAll.j0 k a0 a1 (!t102))) = some r := by rw [if_pos rfl] at H; exact H
   clear H
   have H := H1
   clear H1
   replace H := Option.bind_eq_some_iff.mp H
   obtain ⟨t102, A60, H⟩ := H
   replace H : (spec_piAll.j0 k a0 a1 (!t102)) = some r := H
   have A6 := Aside0.mk A60
   clear A60
   have H' := Aside0.mk H
   clear H
   go_wp2_with (first | ((with_reducible refine gate_callee (f := 45) rfl ?_); refine goesL_ (some 7) rfl rfl Tryd.func45 (by kernel_rfl) rfl #[.int .i64 a0, .int .i64 1, .int .i64 10] rfl (by (try simp only [List.map_toArray, List.map_cons, List.map_nil]); first | done | rfl | (simp only [List.length_drop, List.length_take]; rfl)) ?_; (with_reducible refine (spec_l1In.calls a0 1 10 true _ A4.out).mono ?_); rintro e w' ⟨rfl, ⟨nd, rfl⟩⟩; refine ⟨_, rfl, ?_⟩) | (go_at_call 45; (with_reducible refine (spec_l1In.calls a1 2 4 t102 _ A6.out).mono ?_); rintro e w' ⟨rfl, ⟨nd, rfl⟩⟩))
   go_meet
   case rel => exact ⟨_, (!t102), (by first | rfl | (simp; done) | (simp [*]; done)), H', ⟨by first | omega | exact Nat.le_refl _⟩, by repeat (first | exact Drawn0.refl _ | apply Drawn0.step)⟩
  ·
   replace c5 := Bool.eq_false_iff.mpr c5
   subst c5
   have H1 : (spec_piAll.j0 k a0 a1 true) = some r := by rw [if_neg (show ¬ (false = true) by decide)] at H; exact H
   clear H
   have H := H1
   clear H1
   have H' := Aside0.mk H
   clear H
   go_wp2_with (first | ((with_reducible refine gate_callee (f := 45) rfl ?_); refine goesL_ (some 7) rfl rfl Tryd.func45 (by kernel_rfl) rfl #[.int .i64 a0, .int .i64 1, .int .i64 10] rfl (by (try simp only [List.map_toArray, List.map_cons, List.map_nil]); first | done | rfl | (simp only [List.length_drop, List.length_take]; rfl)) ?_; (with_reducible refine (spec_l1In.calls a0 1 10 false _ A4.out).mono ?_); rintro e w' ⟨rfl, ⟨nd, rfl⟩⟩; refine ⟨_, rfl, ?_⟩))
   go_meet
   case rel => exact ⟨_, (true), (by first | rfl | (simp; done) | (simp [*]; done)), H', ⟨by first | omega | exact Nat.le_refl _⟩, by repeat (first | exact Drawn0.refl _ | apply Drawn0.step)⟩
 case rest =>
  clear HC3
  try clear p2
  try clear c4
  try clear c5
  try clear c6
  obtain ⟨kq, x13_2, rfl, HA, HJ2, ⟨mc2, rfl⟩⟩ := hcut
  cases kq with
  | zero => exact absurd HA.out (by simp [spec_piAll.j0])
  | succ kj2 =>
   have H := HA.out
   clear HA
   simp only [spec_piAll.j0] at H
   by_cases c7 : x13_2 = true
   ·
    subst c7
    have H1 : (some (-1)) = some r := by rw [if_pos rfl] at H; exact H
    clear H
    have H := H1
    clear H1
    obtain rfl := Option.some.inj H
    go_wp2
    go_ret
    exact ⟨by first | rfl | (simp; done) | (simp [*]; done), by repeat (first | exact Drawn0.refl _ | apply Drawn0.step)⟩
   ·
    replace c7 := Bool.eq_false_iff.mpr c7
    subst c7
    have H1 : (spec_piAll.l0 kj2 a0 a1 1) = some r := by rw [if_neg (show ¬ (false = true) by decide)] at H; exact H
    clear H
    have H := H1
    clear H1
    have H' := Aside0.mk H
    clear H
    go_wp2
    go_loopg [1, 5] kj2 (fun kq v1 v5 w' => ∃ (x1_2 : Int) (x5_2 : Int), v1 = .int .i64 x1_2 ∧ v5 = .int .i64 x5_2 ∧ Aside0 (spec_piAll.l0 kq a0 x1_2 x5_2 = some r) ∧ Aside0 (kq ≤ kj2) ∧ Drawn0 w w')
    case atStart => exact ⟨(a1), (1), (by first | rfl | (simp; done) | (simp [*]; done)), (by first | rfl | (simp; done) | (simp [*]; done)), H', ⟨Nat.le_refl _⟩, by repeat (first | exact Drawn0.refl _ | apply Drawn0.step)⟩
    case round =>
     clear H'
     try clear c2
     try clear p2
     try clear c4
     try clear c5
     try clear c6
     try clear c7
     try clear p2
     obtain ⟨x1_2, x5_2, rfl, rfl, HA, HK2, ⟨m2, rfl⟩⟩ := hrel
     cases gk with
     | zero => exact absurd HA.out (by simp [spec_piAll.l0])
     | succ k2 =>
      have H := HA.out
      clear HA
      simp only [spec_piAll.l0] at H
      by_cases c8 : x1_2 > 0
      ·
       rw [if_pos c8] at H
       have c8b0 : decide (0 < x1_2) = true := decide_eq_true c8
       clear c8
       have H' := Aside0.mk H
       clear H
       go_wp2
       go_roundg k2
       case measure => have := HJ2.out; have := HK2.out; omega
       case rel => exact ⟨(wrap64 (x1_2 - 1)), (wrap64 (x5_2 * a0)), (by first | rfl | (simp; done) | (simp [*]; done)), (by first | rfl | (simp; done) | (simp [*]; done)), H', ⟨by have := HJ2.out; have := HK2.out; omega⟩, by repeat (first | exact Drawn0.refl _ | apply Drawn0.step)⟩
      ·
       rw [if_neg c8] at H
       have c8b0 : decide (0 < x1_2) = false := decide_eq_false c8
       clear c8
       by_cases c9 : x5_2 > 300
       ·
        rw [if_pos c9] at H
        have c9b0 : decide (300 < x5_2) = true := decide_eq_true c9
        clear c9
        obtain rfl := Option.some.inj H
        go_wp2
        go_ret
        exact ⟨by first | rfl | (simp; done) | (simp [*]; done), by repeat (first | exact Drawn0.refl _ | apply Drawn0.step)⟩
       ·
        rw [if_neg c9] at H
        have c9b0 : decide (300 < x5_2) = false := decide_eq_false c9
        clear c9
        obtain rfl := Option.some.inj H
        go_wp2
        go_ret
        exact ⟨by first | rfl | (simp; done) | (simp [*]; done), by repeat (first | exact Drawn0.refl _ | apply Drawn0.step)⟩

end Go.Proofs.YtjnkfnabbekinaaDoor.P

-- printed by xprint.py
namespace Go.Proofs.YtjnkfnabbekinaaDoor.P
open Go.RowKit Go.Proofs.YtjnkfnabbekinaaDoorW.PrintWords Go.Proofs.YtjnkfnabbekinaaDoorW.PrintLast Go.Proofs.YtjnkfnabbekinaaDoorW.PrintMore
attribute [local go_sem] max2_int min2_int max_two min_two max_three min_three max_four min_four   -- for this text's walks alone
set_option linter.unusedVariables false
set_option linter.unusedSimpArgs false

/-! ### spec_piDigits: function 52 -/
def spec_piDigits.l0 : Nat → ByteArray → Int → Option (Bool)
 | 0, _, _ => none
 | k + 1, x0, x7 => if x7 < (x0.size : Int) then (if 0 ≤ x7 then (if (bt x0 x7) < 48 then (some false) else (if (bt x0 x7) > 57 then (some false) else (spec_piDigits.l0 k x0 (wrap64 (x7 + 1))))) else (none)) else (some true)
def spec_piDigits.f (k : Nat) (a0 : ByteArray) (a1 : Int) (a2 : Int) : Option (Bool) := (spec_l1In.f (a0.size : Int) a1 a2).bind fun t101 => (if t101 = true then (spec_piDigits.l0 k a0 0) else (some false))
theorem spec_piDigits.mono_l : ∀ k, (∀ y0 y1, LeO (spec_piDigits.l0 k y0 y1) (spec_piDigits.l0 (k + 1) y0 y1))
 | 0 => by intros; intro r h; simp [spec_piDigits.l0] at h
 | k + 1 => by
  have ih0 := spec_piDigits.mono_l k
  ·
   intro y0 y1
   unfold spec_piDigits.l0
   repeat' first
   | (with_reducible exact ih0 _ _)
   | (with_reducible exact LeO.refl _)
   | (with_reducible exact LeO.none _)
   | (with_reducible refine LeO.ite ?_ ?_)
   | (with_reducible refine LeO.bind ?_ (fun _ => ?_))
   | exact ih0 _ _
   | exact LeO.none _
   | refine LeO.ite ?_ ?_
   | refine LeO.bind ?_ (fun _ => ?_)
theorem spec_piDigits.mono : ∀ y0 y1 y2 k, LeO (spec_piDigits.f k y0 y1 y2) (spec_piDigits.f (k + 1) y0 y1 y2) := by
 intro y0 y1 y2 k
 have ih0 := spec_piDigits.mono_l k
 unfold spec_piDigits.f
 repeat' first
   | (with_reducible exact ih0 _ _)
   | (with_reducible exact LeO.refl _)
   | (with_reducible exact LeO.none _)
   | (with_reducible refine LeO.ite ?_ ?_)
   | (with_reducible refine LeO.bind ?_ (fun _ => ?_))
   | exact ih0 _ _
   | exact LeO.none _
   | refine LeO.ite ?_ ?_
   | refine LeO.bind ?_ (fun _ => ?_)
set_option maxHeartbeats 8000000 in
set_option maxRecDepth 100000 in
theorem spec_piDigits.calls (k : Nat) (a0 : ByteArray) (a1 : Int) (a2 : Int) (r : Bool) (w : World) (h : spec_piDigits.f k a0 a1 a2 = some r) :
  Calls Tryd.prog 52 #[.string a0, .int .i64 a1, .int .i64 a2] w fun e w' => e = .returned (.bool r) ∧ Drawn0 w w' := by
 have H : ((spec_l1In.f (a0.size : Int) a1 a2).bind fun t101 => (if t101 = true then (spec_piDigits.l0 k a0 0) else (some false))) = some r := h
 clear h
 replace H := Option.bind_eq_some_iff.mp H
 obtain ⟨t101, A40, H⟩ := H
 replace H : (if t101 = true then (spec_piDigits.l0 k a0 0) else (some false)) = some r := H
 have A4 := Aside0.mk A40
 clear A40
 by_cases c5 : t101 = true
 ·
  subst c5
  have H1 : (spec_piDigits.l0 k a0 0) = some r := by rw [if_pos rfl] at H; exact H
  clear H
  have H := H1
  clear H1
  have H' := Aside0.mk H
  clear H
  go_enter Tryd.func52, Tryd.ntmps52
  go_wp2_with (first | ((with_reducible refine gate_callee (f := 45) rfl ?_); refine goesL_ (some 12) rfl rfl Tryd.func45 (by kernel_rfl) rfl #[.int .i64 (a0.size : Int), .int .i64 a1, .int .i64 a2] rfl (by (try simp only [List.map_toArray, List.map_cons, List.map_nil]); first | done | rfl | (simp only [List.length_drop, List.length_take]; rfl)) ?_; (with_reducible refine (spec_l1In.calls (a0.size : Int) a1 a2 true _ A4.out).mono ?_); rintro e w' ⟨rfl, ⟨nd, rfl⟩⟩; refine ⟨_, rfl, ?_⟩))
  go_loopg [7] k (fun kq v7 w' => ∃ (x7_1 : Int), v7 = .int .i64 x7_1 ∧ Aside0 (spec_piDigits.l0 kq a0 x7_1 = some r) ∧ Aside0 (kq ≤ k) ∧ Drawn0 w w')
  case atStart => exact ⟨(0), (by first | rfl | (simp; done) | (simp [*]; done)), H', ⟨Nat.le_refl _⟩, by repeat (first | exact Drawn0.refl _ | apply Drawn0.step)⟩
  case round =>
   clear H'
   try clear p2
   try clear c4
   try clear c5
   obtain ⟨x7_1, rfl, HA, HK1, ⟨m1, rfl⟩⟩ := hrel
   cases gk with
   | zero => exact absurd HA.out (by simp [spec_piDigits.l0])
   | succ k1 =>
    have H := HA.out
    clear HA
    simp only [spec_piDigits.l0] at H
    by_cases c6 : x7_1 < (a0.size : Int)
    ·
     rw [if_pos c6] at H
     have c6b0 : decide (x7_1 < (a0.size : Int)) = true := decide_eq_true c6
     clear c6
     by_cases c7 : 0 ≤ x7_1
     ·
      rw [if_pos c7] at H
      have c7b0 : decide (0 ≤ x7_1) = true := decide_eq_true c7
      clear c7
      by_cases c9 : (bt a0 x7_1) < 48
      ·
       rw [if_pos c9] at H
       have c9b0 : decide ((bt a0 x7_1) < 48) = true := decide_eq_true c9
       clear c9
       obtain rfl := Option.some.inj H
       have p8 : 0 ≤ (x7_1 : Int) := of_decide_eq_true (by first | (with_reducible assumption) | assumption)
       have q8 : x7_1 < (a0.size : Int) := of_decide_eq_true (by first | (with_reducible assumption) | assumption)
       have hx8 := bt_at a0 x7_1
       replace p8 := eq_true p8
       replace q8 := eq_true q8
       go_wp2
       go_ret
       exact ⟨by first | rfl | (simp; done) | (simp [*]; done), by repeat (first | exact Drawn0.refl _ | apply Drawn0.step)⟩
      ·
       rw [if_neg c9] at H
       have c9b0 : decide ((bt a0 x7_1) < 48) = false := decide_eq_false c9
       clear c9
       by_cases c11 : (bt a0 x7_1) > 57
       ·
        rw [if_pos c11] at H
        have c11b0 : decide (57 < (bt a0 x7_1)) = true := decide_eq_true c11
        clear c11
        obtain rfl := Option.some.inj H
        have p8 : 0 ≤ (x7_1 : Int) := of_decide_eq_true (by first | (with_reducible assumption) | assumption)
        have q8 : x7_1 < (a0.size : Int) := of_decide_eq_true (by first | (with_reducible assumption) | assumption)
        have hx8 := bt_at a0 x7_1
        replace p8 := eq_true p8
        replace q8 := eq_true q8
        have p10 : 0 ≤ (x7_1 : Int) := of_decide_eq_true (by first | (with_reducible assumption) | assumption)
        have q10 : x7_1 < (a0.size : Int) := of_decide_eq_true (by first | (with_reducible assumption) | assumption)
        have hx10 := bt_at a0 x7_1
        replace p10 := eq_true p10
        replace q10 := eq_true q10
        go_wp2
        go_ret
        exact ⟨by first | rfl | (simp; done) | (simp [*]; done), by repeat (first | exact Drawn0.refl _ | apply Drawn0.step)⟩
       ·
        rw [if_neg c11] at H
        have c11b0 : decide (57 < (bt a0 x7_1)) = false := decide_eq_false c11
        clear c11
        have H' := Aside0.mk H
        clear H
        have p8 : 0 ≤ (x7_1 : Int) := of_decide_eq_true (by first | (with_reducible assumption) | assumption)
        have q8 : x7_1 < (a0.size : Int) := of_decide_eq_true (by first | (with_reducible assumption) | assumption)
        have hx8 := bt_at a0 x7_1
        replace p8 := eq_true p8
        replace q8 := eq_true q8
        have p10 : 0 ≤ (x7_1 : Int) := of_decide_eq_true (by first | (with_reducible assumption) | assumption)
        have q10 : x7_1 < (a0.size : Int) := of_decide_eq_true (by first | (with_reducible assumption) | assumption)
        have hx10 := bt_at a0 x7_1
        replace p10 := eq_true p10
        replace q10 := eq_true q10
        go_wp2
        go_roundg k1
        case measure => have := HK1.out; omega
        case rel => exact ⟨(wrap64 (x7_1 + 1)), (by first | rfl | (simp; done) | (simp [*]; done)), H', ⟨by have := HK1.out; omega⟩, by repeat (first | exact Drawn0.refl _ | apply Drawn0.step)⟩
     ·
      rw [if_neg c7] at H
      exact absurd H (by simp)
    ·
     rw [if_neg c6] at H
     have c6b0 : decide (x7_1 < (a0.size : Int)) = false := decide_eq_false c6
     clear c6
     obtain rfl := Option.some.inj H
     go_wp2
     go_ret
     exact ⟨by first | rfl | (simp; done) | (simp [*]; done), by repeat (first | exact Drawn0.refl _ | apply Drawn0.step)⟩
 ·
  replace c5 := Bool.eq_false_iff.mpr c5
  subst c5
  have H1 : (some false) = some r := by rw [if_neg (show ¬ (false = true) by decide)] at H; exact H
  clear H
  have H := H1
  clear H1
  obtain rfl := Option.some.inj H
  go_enter Tryd.func52, Tryd.ntmps52
  go_wp2_with (first | ((with_reducible refine gate_callee (f := 45) rfl ?_); refine goesL_ (some 12) rfl rfl Tryd.func45 (by kernel_rfl) rfl #[.int .i64 (a0.size : Int), .int .i64 a1, .int .i64 a2] rfl (by (try simp only [List.map_toArray, List.map_cons, List.map_nil]); first | done | rfl | (simp only [List.length_drop, List.length_take]; rfl)) ?_; (with_reducible refine (spec_l1In.calls (a0.size : Int) a1 a2 false _ A4.out).mono ?_); rintro e w' ⟨rfl, ⟨nd, rfl⟩⟩; refine ⟨_, rfl, ?_⟩))
  go_ret
  exact ⟨by first | rfl | (simp; done) | (simp [*]; done), by repeat (first | exact Drawn0.refl _ | apply Drawn0.step)⟩

end Go.Proofs.YtjnkfnabbekinaaDoor.P

-- printed by xprint.py
namespace Go.Proofs.YtjnkfnabbekinaaDoor.P
open Go.RowKit Go.Proofs.YtjnkfnabbekinaaDoorW.PrintWords Go.Proofs.YtjnkfnabbekinaaDoorW.PrintLast Go.Proofs.YtjnkfnabbekinaaDoorW.PrintMore
attribute [local go_sem] max2_int min2_int max_two min_two max_three min_three max_four min_four   -- for this text's walks alone
set_option linter.unusedVariables false
set_option linter.unusedSimpArgs false

/-! ### spec_piOpens: function 53 -/
def spec_piOpens.l0 : Nat → ByteArray → ByteArray → Int → Option (Int)
 | 0, _, _, _ => none
 | k + 1, x0, x1, x5 => if x5 ≤ (x0.size : Int) then (if 0 ≤ (wrap64 (x5 - (x1.size : Int))) then (if (wrap64 (x5 - (x1.size : Int))) ≤ x5 then (if (x0.extract ((wrap64 (x5 - (x1.size : Int))) : Int).toNat (x5 : Int).toNat).toList = x1.toList then (some x5) else (spec_piOpens.l0 k x0 x1 (wrap64 (x5 + 1)))) else (none)) else (none)) else (some (-1))
def spec_piOpens.f (k : Nat) (a0 : ByteArray) (a1 : ByteArray) : Option (Int) := spec_piOpens.l0 k a0 a1 (a1.size : Int)
theorem spec_piOpens.mono_l : ∀ k, (∀ y0 y1 y2, LeO (spec_piOpens.l0 k y0 y1 y2) (spec_piOpens.l0 (k + 1) y0 y1 y2))
 | 0 => by intros; intro r h; simp [spec_piOpens.l0] at h
 | k + 1 => by
  have ih0 := spec_piOpens.mono_l k
  ·
   intro y0 y1 y2
   unfold spec_piOpens.l0
   repeat' first
   | (with_reducible exact ih0 _ _ _)
   | (with_reducible exact LeO.refl _)
   | (with_reducible exact LeO.none _)
   | (with_reducible refine LeO.ite ?_ ?_)
   | (with_reducible refine LeO.bind ?_ (fun _ => ?_))
   | exact ih0 _ _ _
   | exact LeO.none _
   | refine LeO.ite ?_ ?_
   | refine LeO.bind ?_ (fun _ => ?_)
theorem spec_piOpens.mono : ∀ y0 y1 k, LeO (spec_piOpens.f k y0 y1) (spec_piOpens.f (k + 1) y0 y1) := by
 intro y0 y1 k
 have ih0 := spec_piOpens.mono_l k
 unfold spec_piOpens.f
 repeat' first
   | (with_reducible exact ih0 _ _ _)
   | (with_reducible exact LeO.refl _)
   | (with_reducible exact LeO.none _)
   | (with_reducible refine LeO.ite ?_ ?_)
   | (with_reducible refine LeO.bind ?_ (fun _ => ?_))
   | exact ih0 _ _ _
   | exact LeO.none _
   | refine LeO.ite ?_ ?_
   | refine LeO.bind ?_ (fun _ => ?_)
set_option maxHeartbeats 8000000 in
set_option maxRecDepth 100000 in
theorem spec_piOpens.calls (k : Nat) (a0 : ByteArray) (a1 : ByteArray) (r : Int) (w : World) (h : spec_piOpens.f k a0 a1 = some r) :
  Calls Tryd.prog 53 #[.string a0, .string a1] w fun e w' => e = .returned (.int .i64 r) ∧ Drawn0 w w' := by
 have H : (spec_piOpens.l0 k a0 a1 (a1.size : Int)) = some r := h
 clear h
 have H' := Aside0.mk H
 clear H
 go_enter Tryd.func53, Tryd.ntmps53
 go_wp2
 go_loopg [5] k (fun kq v5 w' => ∃ (x5_1 : Int), v5 = .int .i64 x5_1 ∧ Aside0 (spec_piOpens.l0 kq a0 a1 x5_1 = some r) ∧ Aside0 (kq ≤ k) ∧ Drawn0 w w')
 case atStart => exact ⟨((a1.size : Int)), (by first | rfl | (simp; done) | (simp [*]; done)), H', ⟨Nat.le_refl _⟩, by repeat (first | exact Drawn0.refl _ | apply Drawn0.step)⟩
 case round =>
  clear H'
  try clear p2
  obtain ⟨x5_1, rfl, HA, HK1, ⟨m1, rfl⟩⟩ := hrel
  cases gk with
  | zero => exact absurd HA.out (by simp [spec_piOpens.l0])
  | succ k1 =>
   have H := HA.out
   clear HA
   simp only [spec_piOpens.l0] at H
   by_cases c3 : x5_1 ≤ (a0.size : Int)
   ·
    rw [if_pos c3] at H
    have c3b0 : decide (x5_1 ≤ (a0.size : Int)) = true := decide_eq_true c3
    clear c3
    obtain ⟨ji4, hji4⟩ : ∃ j_ : Int, (wrap64 (x5_1 - (a1.size : Int))) = j_ := ⟨_, rfl⟩
    replace H : (if 0 ≤ (ji4) then (if (ji4) ≤ x5_1 then (if (a0.extract ((ji4) : Int).toNat (x5_1 : Int).toNat).toList = a1.toList then (some x5_1) else (spec_piOpens.l0 k1 a0 a1 (wrap64 (x5_1 + 1)))) else (none)) else (none)) = some r := by first | (rw [hji4] at H; exact H) | (simp only [hji4] at H ⊢; exact H)
    have hji4w : (IntKind.i64.wrap (x5_1 - (a1.size : Int))) = ji4 := (i64_w _).trans hji4
    by_cases c5 : 0 ≤ (ji4)
    ·
     rw [if_pos c5] at H
     have c5b0 := eq_true c5
     have c5b1 : decide (0 ≤ (ji4)) = true := decide_eq_true c5
     clear c5
     by_cases c6 : (ji4) ≤ x5_1
     ·
      rw [if_pos c6] at H
      have c6b0 := eq_true c6
      have c6b1 : decide ((ji4) ≤ x5_1) = true := decide_eq_true c6
      clear c6
      have c7b0 := eq_true (of_decide_eq_true (by first | (with_reducible assumption) | assumption) : x5_1 ≤ (a0.size : Int))
      by_cases c8 : (a0.extract ((ji4) : Int).toNat (x5_1 : Int).toNat).toList = a1.toList
      ·
       rw [if_pos c8] at H
       have c8b0 : ((a0.extract ((ji4) : Int).toNat (x5_1 : Int).toNat).toList == a1.toList) = true := beq_iff_eq.mpr c8
       have c8b1 : ((a0.extract ((ji4) : Int).toNat (x5_1 : Int).toNat).toList != a1.toList) = false := bne_eq_false_iff_eq.mpr c8
       clear c8
       obtain rfl := Option.some.inj H
       go_wp2
       go_ret
       exact ⟨by first | rfl | (simp; done) | (simp only [← hji4] <;> (first | rfl | simp)) | (simp [*]; done), by repeat (first | exact Drawn0.refl _ | apply Drawn0.step)⟩
      ·
       rw [if_neg c8] at H
       have c8b0 : ((a0.extract ((ji4) : Int).toNat (x5_1 : Int).toNat).toList == a1.toList) = false := beq_eq_false_iff_ne.mpr c8
       have c8b1 : ((a0.extract ((ji4) : Int).toNat (x5_1 : Int).toNat).toList != a1.toList) = true := bne_iff_ne.mpr c8
       have H' := Aside0.mk H
       clear H
       go_wp2
       go_roundg k1
       case measure => have := HK1.out; omega
       case rel => exact ⟨(wrap64 (x5_1 + 1)), (by first | rfl | (simp; done) | (simp [*]; done)), H', ⟨by have := HK1.out; omega⟩, by repeat (first | exact Drawn0.refl _ | apply Drawn0.step)⟩
     ·
      rw [if_neg c6] at H
      exact absurd H (by simp)
    ·
     rw [if_neg c5] at H
     exact absurd H (by simp)
   ·
    rw [if_neg c3] at H
    have c3b0 : decide (x5_1 ≤ (a0.size : Int)) = false := decide_eq_false c3
    clear c3
    obtain rfl := Option.some.inj H
    go_wp2
    go_ret
    exact ⟨by first | rfl | (simp; done) | (simp [*]; done), by repeat (first | exact Drawn0.refl _ | apply Drawn0.step)⟩

end Go.Proofs.YtjnkfnabbekinaaDoor.P

-- printed by xprint.py
namespace Go.Proofs.YtjnkfnabbekinaaDoor.P
open Go.RowKit Go.Proofs.YtjnkfnabbekinaaDoorW.PrintWords Go.Proofs.YtjnkfnabbekinaaDoorW.PrintLast Go.Proofs.YtjnkfnabbekinaaDoorW.PrintMore
attribute [local go_sem] max2_int min2_int max_two min_two max_three min_three max_four min_four   -- for this text's walks alone
set_option linter.unusedVariables false
set_option linter.unusedSimpArgs false

/-! ### spec_DoesOpenAll: function 41 -/
mutual
def spec_DoesOpenAll.j0 : Nat → ByteArray → Int → Int → Int → Bool → Option (Bool × Bool)
 | 0, _, _, _, _, _ => none
 | k + 1, x0, x1, x2, x8, x22 => if x22 = true then (some (false, false)) else (spec_DoesOpenAll.l0 k x0 x1 x2 x8 0)
def spec_DoesOpenAll.l0 : Nat → ByteArray → Int → Int → Int → Int → Option (Bool × Bool)
 | 0, _, _, _, _, _ => none
 | k + 1, x0, x1, x2, x8, x9 => if x9 < x8 then (spec_DoesOpenAll.l1 k x0 x1 x2 x8 x9 (⟨#[]⟩ : ByteArray) x9 0) else (some (true, true))
def spec_DoesOpenAll.l1 : Nat → ByteArray → Int → Int → Int → Int → ByteArray → Int → Int → Option (Bool × Bool)
 | 0, _, _, _, _, _, _, _, _ => none
 | k + 1, x0, x1, x2, x8, x9, x10, x11, x12 => if x12 < x2 then (if x1 = 0 then (none) else ((spec_l1Num.f k (Int.tmod x11 x1)).bind fun t103 => (if t103.size + x10.size ≤ 9223372036854775807 then (spec_DoesOpenAll.l1 k x0 x1 x2 x8 x9 (t103 ++ x10) (wrap64 (Int.tdiv x11 x1)) (wrap64 (x12 + 1))) else (none)))) else ((spec_piOpens.f k x0 x10).bind fun t104 => (if t104 < 0 then (some (false, true)) else (spec_DoesOpenAll.l0 k x0 x1 x2 x8 (wrap64 (x9 + 1)))))
end
def spec_DoesOpenAll.f (k : Nat) (a0 : ByteArray) (a1 : Int) (a2 : Int) : Option (Bool × Bool) := (spec_piAll.f k a1 a2).bind fun t101 => ((spec_piDigits.f k a0 0 1300).bind fun t102 => (if t102 = true then (spec_DoesOpenAll.j0 k a0 a1 a2 t101 (decide (t101 < 0))) else (spec_DoesOpenAll.j0 k a0 a1 a2 t101 true)))
theorem spec_DoesOpenAll.mono_l : ∀ k, (∀ y0 y1 y2 y3 y4, LeO (spec_DoesOpenAll.j0 k y0 y1 y2 y3 y4) (spec_DoesOpenAll.j0 (k + 1) y0 y1 y2 y3 y4)) ∧ (∀ y0 y1 y2 y3 y4, LeO (spec_DoesOpenAll.l0 k y0 y1 y2 y3 y4) (spec_DoesOpenAll.l0 (k + 1) y0 y1 y2 y3 y4)) ∧ (∀ y0 y1 y2 y3 y4 y5 y6 y7, LeO (spec_DoesOpenAll.l1 k y0 y1 y2 y3 y4 y5 y6 y7) (spec_DoesOpenAll.l1 (k + 1) y0 y1 y2 y3 y4 y5 y6 y7))
 | 0 => ⟨by intros; intro r h; simp [spec_DoesOpenAll.j0] at h, by intros; intro r h; simp [spec_DoesOpenAll.l0] at h, by intros; intro r h; simp [spec_DoesOpenAll.l1] at h⟩
 | k + 1 => by
  obtain ⟨ih0, ih1, ih2⟩ := spec_DoesOpenAll.mono_l k
  refine ⟨?_, ?_, ?_⟩
  ·
   intro y0 y1 y2 y3 y4
   unfold spec_DoesOpenAll.j0
   repeat' first
   | (with_reducible exact ih0 _ _ _ _ _)
   | (with_reducible exact ih1 _ _ _ _ _)
   | (with_reducible exact ih2 _ _ _ _ _ _ _ _)
   | (with_reducible exact spec_l1Num.mono _ _)
   | (with_reducible exact spec_piAll.mono _ _ _)
   | (with_reducible exact spec_piDigits.mono _ _ _ _)
   | (with_reducible exact spec_piOpens.mono _ _ _)
   | (with_reducible exact LeO.refl _)
   | (with_reducible exact LeO.none _)
   | (with_reducible refine LeO.ite ?_ ?_)
   | (with_reducible refine LeO.bind ?_ (fun _ => ?_))
   | exact ih0 _ _ _ _ _
   | exact ih1 _ _ _ _ _
   | exact ih2 _ _ _ _ _ _ _ _
   | exact spec_l1Num.mono _ _
   | exact spec_piAll.mono _ _ _
   | exact spec_piDigits.mono _ _ _ _
   | exact spec_piOpens.mono _ _ _
   | exact LeO.none _
   | refine LeO.ite ?_ ?_
   | refine LeO.bind ?_ (fun _ => ?_)
  ·
   intro y0 y1 y2 y3 y4
   unfold spec_DoesOpenAll.l0
   repeat' first
   | (with_reducible exact ih0 _ _ _ _ _)
   | (with_reducible exact ih1 _ _ _ _ _)
   | (with_reducible exact ih2 _ _ _ _ _ _ _ _)
   | (with_reducible exact spec_l1Num.mono _ _)
   | (with_reducible exact spec_piAll.mono _ _ _)
   | (with_reducible exact spec_piDigits.mono _ _ _ _)
   | (with_reducible exact spec_piOpens.mono _ _ _)
   | (with_reducible exact LeO.refl _)
   | (with_reducible exact LeO.none _)
   | (with_reducible refine LeO.ite ?_ ?_)
   | (with_reducible refine LeO.bind ?_ (fun _ => ?_))
   | exact ih0 _ _ _ _ _
   | exact ih1 _ _ _ _ _
   | exact ih2 _ _ _ _ _ _ _ _
   | exact spec_l1Num.mono _ _
   | exact spec_piAll.mono _ _ _
   | exact spec_piDigits.mono _ _ _ _
   | exact spec_piOpens.mono _ _ _
   | exact LeO.none _
   | refine LeO.ite ?_ ?_
   | refine LeO.bind ?_ (fun _ => ?_)
  ·
   intro y0 y1 y2 y3 y4 y5 y6 y7
   unfold spec_DoesOpenAll.l1
   repeat' first
   | (with_reducible exact ih0 _ _ _ _ _)
   | (with_reducible exact ih1 _ _ _ _ _)
   | (with_reducible exact ih2 _ _ _ _ _ _ _ _)
   | (with_reducible exact spec_l1Num.mono _ _)
   | (with_reducible exact spec_piAll.mono _ _ _)
   | (with_reducible exact spec_piDigits.mono _ _ _ _)
   | (with_reducible exact spec_piOpens.mono _ _ _)
   | (with_reducible exact LeO.refl _)
   | (with_reducible exact LeO.none _)
   | (with_reducible refine LeO.ite ?_ ?_)
   | (with_reducible refine LeO.bind ?_ (fun _ => ?_))
   | exact ih0 _ _ _ _ _
   | exact ih1 _ _ _ _ _
   | exact ih2 _ _ _ _ _ _ _ _
   | exact spec_l1Num.mono _ _
   | exact spec_piAll.mono _ _ _
   | exact spec_piDigits.mono _ _ _ _
   | exact spec_piOpens.mono _ _ _
   | exact LeO.none _
   | refine LeO.ite ?_ ?_
   | refine LeO.bind ?_ (fun _ => ?_)
theorem spec_DoesOpenAll.mono : ∀ y0 y1 y2 k, LeO (spec_DoesOpenAll.f k y0 y1 y2) (spec_DoesOpenAll.f (k + 1) y0 y1 y2) := by
 intro y0 y1 y2 k
 obtain ⟨ih0, ih1, ih2⟩ := spec_DoesOpenAll.mono_l k
 unfold spec_DoesOpenAll.f
 repeat' first
   | (with_reducible exact ih0 _ _ _ _ _)
   | (with_reducible exact ih1 _ _ _ _ _)
   | (with_reducible exact ih2 _ _ _ _ _ _ _ _)
   | (with_reducible exact spec_l1Num.mono _ _)
   | (with_reducible exact spec_piAll.mono _ _ _)
   | (with_reducible exact spec_piDigits.mono _ _ _ _)
   | (with_reducible exact spec_piOpens.mono _ _ _)
   | (with_reducible exact LeO.refl _)
   | (with_reducible exact LeO.none _)
   | (with_reducible refine LeO.ite ?_ ?_)
   | (with_reducible refine LeO.bind ?_ (fun _ => ?_))
   | exact ih0 _ _ _ _ _
   | exact ih1 _ _ _ _ _
   | exact ih2 _ _ _ _ _ _ _ _
   | exact spec_l1Num.mono _ _
   | exact spec_piAll.mono _ _ _
   | exact spec_piDigits.mono _ _ _ _
   | exact spec_piOpens.mono _ _ _
   | exact LeO.none _
   | refine LeO.ite ?_ ?_
   | refine LeO.bind ?_ (fun _ => ?_)
set_option maxHeartbeats 8000000 in
set_option maxRecDepth 100000 in
theorem spec_DoesOpenAll.calls (k : Nat) (a0 : ByteArray) (a1 : Int) (a2 : Int) (r1 : Bool) (r2 : Bool) (w : World) (h : spec_DoesOpenAll.f k a0 a1 a2 = some (r1, r2)) :
  Calls Tryd.prog 41 #[.string a0, .int .i64 a1, .int .i64 a2] w fun e w' => e = .returned (.tuple #[.bool r1, .bool r2]) ∧ Below w.heap.size w w' := by
 have HB := Aside0.mk (Below.refl w.heap.size w)
 have H : ((spec_piAll.f k a1 a2).bind fun t101 => ((spec_piDigits.f k a0 0 1300).bind fun t102 => (if t102 = true then (spec_DoesOpenAll.j0 k a0 a1 a2 t101 (decide (t101 < 0))) else (spec_DoesOpenAll.j0 k a0 a1 a2 t101 true)))) = some (r1, r2) := h
 clear h
 replace H := Option.bind_eq_some_iff.mp H
 obtain ⟨t101, A40, H⟩ := H
 replace H : ((spec_piDigits.f k a0 0 1300).bind fun t102 => (if t102 = true then (spec_DoesOpenAll.j0 k a0 a1 a2 t101 (decide (t101 < 0))) else (spec_DoesOpenAll.j0 k a0 a1 a2 t101 true))) = some (r1, r2) := H
 have A4 := Aside0.mk A40
 clear A40
 have HC5 := Aside0.mk H
 clear H
 go_enter Tryd.func41, Tryd.ntmps41
 go_upto_region 2 with (first | ((with_reducible refine gate_callee (f := 68) rfl ?_); refine goesL_ (some 15) rfl rfl Tryd.func68 (by kernel_rfl) rfl #[.int .i64 a1, .int .i64 a2] rfl (by (try simp only [List.map_toArray, List.map_cons, List.map_nil]); first | done | rfl | (simp only [List.length_drop, List.length_take]; rfl)) ?_; (with_reducible refine (spec_piAll.calls k a1 a2 t101 _ A4.out).mono ?_); rintro e w' ⟨rfl, ⟨nd, rfl⟩⟩; refine ⟨_, rfl, ?_⟩))
 (try simp only [Act.put, List.setIfInBounds_toArray, List.set_cons_zero, List.set_cons_succ])
 go_cut [22] (fun v22 wc => ∃ (kq : Nat) (x22_4 : Bool), v22 = .bool x22_4 ∧ Aside0 (spec_DoesOpenAll.j0 kq a0 a1 a2 t101 x22_4 = some (r1, r2)) ∧ Aside0 (kq ≤ k) ∧ Aside0 (Below w.heap.size w wc))
 case first =>
  have H := HC5.out
  clear HC5
  replace H := Option.bind_eq_some_iff.mp H
  obtain ⟨t102, A60, H⟩ := H
  replace H : (if t102 = true then (spec_DoesOpenAll.j0 k a0 a1 a2 t101 (decide (t101 < 0))) else (spec_DoesOpenAll.j0 k a0 a1 a2 t101 true)) = some (r1, r2) := H
  have A6 := Aside0.mk A60
  clear A60
  by_cases c7 : t102 = true
  ·
   subst c7
   have H1 : (spec_DoesOpenAll.j0 k a0 a1 a2 t101 (decide (t101 < 0))) = some (r1, r2) := by rw [if_pos rfl] at H; exact H
   clear H
   have H := H1
   clear H1
   have H' := Aside0.mk H
   clear H
   go_wp2_with (first | ((with_reducible refine gate_callee (f := 52) rfl ?_); refine goesL_ (some 17) rfl rfl Tryd.func52 (by kernel_rfl) rfl #[.string a0, .int .i64 0, .int .i64 1300] rfl (by (try simp only [List.map_toArray, List.map_cons, List.map_nil]); first | done | rfl | (simp only [List.length_drop, List.length_take]; rfl)) ?_; (with_reducible refine (spec_piDigits.calls k a0 0 1300 true _ A6.out).mono ?_); rintro e w' ⟨rfl, ⟨nd, rfl⟩⟩; refine ⟨_, rfl, ?_⟩))
   go_meet
   case rel => exact ⟨_, (decide (t101 < 0)), (by first | rfl | (simp; done) | (simp [*]; done)), H', ⟨by first | omega | exact Nat.le_refl _⟩, ⟨by repeat (first | (with_reducible first | exact HB.out | apply below_alloc | apply pw_below_drewN | apply below_drew1) | exact HB.out)⟩⟩
  ·
   replace c7 := Bool.eq_false_iff.mpr c7
   subst c7
   have H1 : (spec_DoesOpenAll.j0 k a0 a1 a2 t101 true) = some (r1, r2) := by rw [if_neg (show ¬ (false = true) by decide)] at H; exact H
   clear H
   have H := H1
   clear H1
   have H' := Aside0.mk H
   clear H
   go_wp2_with (first | ((with_reducible refine gate_callee (f := 52) rfl ?_); refine goesL_ (some 17) rfl rfl Tryd.func52 (by kernel_rfl) rfl #[.string a0, .int .i64 0, .int .i64 1300] rfl (by (try simp only [List.map_toArray, List.map_cons, List.map_nil]); first | done | rfl | (simp only [List.length_drop, List.length_take]; rfl)) ?_; (with_reducible refine (spec_piDigits.calls k a0 0 1300 false _ A6.out).mono ?_); rintro e w' ⟨rfl, ⟨nd, rfl⟩⟩; refine ⟨_, rfl, ?_⟩))
   go_meet
   case rel => exact ⟨_, (true), (by first | rfl | (simp; done) | (simp [*]; done)), H', ⟨by first | omega | exact Nat.le_refl _⟩, ⟨by repeat (first | (with_reducible first | exact HB.out | apply below_alloc | apply pw_below_drewN | apply below_drew1) | exact HB.out)⟩⟩
 case rest =>
  clear HC5
  try clear p2
  try clear c4
  try clear c5
  try clear c6
  try clear c7
  obtain ⟨kq, x22_4, rfl, HA, HJ4, HB⟩ := hcut
  cases kq with
  | zero => exact absurd HA.out (by simp [spec_DoesOpenAll.j0])
  | succ kj4 =>
   have H := HA.out
   clear HA
   simp only [spec_DoesOpenAll.j0] at H
   by_cases c8 : x22_4 = true
   ·
    subst c8
    have H1 : (some (false, false)) = some (r1, r2) := by rw [if_pos rfl] at H; exact H
    clear H
    have H := H1
    clear H1
    simp only [Option.some.injEq, Prod.mk.injEq] at H
    obtain ⟨rfl, rfl⟩ := H
    go_wp2
    go_ret2
    exact ⟨by first | rfl | (simp [errW_none, errW_some] <;> rfl) | (simp [*, errW_none, errW_some] <;> rfl), by repeat (first | (with_reducible first | exact HB.out | apply below_alloc | apply pw_below_drewN | apply below_drew1) | exact HB.out)⟩
   ·
    replace c8 := Bool.eq_false_iff.mpr c8
    subst c8
    have H1 : (spec_DoesOpenAll.l0 kj4 a0 a1 a2 t101 0) = some (r1, r2) := by rw [if_neg (show ¬ (false = true) by decide)] at H; exact H
    clear H
    have H := H1
    clear H1
    have H' := Aside0.mk H
    clear H
    go_wp2
    go_loopg [9] kj4 (fun kq v9 w' => ∃ (x9_2 : Int), v9 = .int .i64 x9_2 ∧ Aside0 (spec_DoesOpenAll.l0 kq a0 a1 a2 t101 x9_2 = some (r1, r2)) ∧ Aside0 (kq ≤ kj4) ∧ Aside0 (Below w.heap.size w w'))
    case atStart => exact ⟨(0), (by first | rfl | (simp; done) | (simp [*]; done)), H', ⟨Nat.le_refl _⟩, ⟨by repeat (first | (with_reducible first | exact HB.out | apply below_alloc | apply pw_below_drewN | apply below_drew1) | exact HB.out)⟩⟩
    case round =>
     clear H'
     try clear p2
     try clear c4
     try clear c5
     try clear c6
     try clear c7
     try clear c8
     try clear p2
     obtain ⟨x9_2, rfl, HA, HK2, HB⟩ := hrel
     cases gk with
     | zero => exact absurd HA.out (by simp [spec_DoesOpenAll.l0])
     | succ k2 =>
      have H := HA.out
      clear HA
      simp only [spec_DoesOpenAll.l0] at H
      by_cases c9 : x9_2 < t101
      ·
       rw [if_pos c9] at H
       have c9b0 : decide (x9_2 < t101) = true := decide_eq_true c9
       clear c9
       have H' := Aside0.mk H
       clear H
       go_wp2
       go_loopg [10, 11, 12] k2 (fun kq v10 v11 v12 w' => ∃ (x10_3 : ByteArray) (x11_3 : Int) (x12_3 : Int), v10 = .string x10_3 ∧ v11 = .int .i64 x11_3 ∧ v12 = .int .i64 x12_3 ∧ Aside0 (spec_DoesOpenAll.l1 kq a0 a1 a2 t101 x9_2 x10_3 x11_3 x12_3 = some (r1, r2)) ∧ Aside0 (kq ≤ k2) ∧ Aside0 (Below w.heap.size w w'))
       case atStart => exact ⟨((⟨#[]⟩ : ByteArray)), (x9_2), (0), (by first | rfl | (simp; done) | (simp [*]; done)), (by first | rfl | (simp; done) | (simp [*]; done)), (by first | rfl | (simp; done) | (simp [*]; done)), H', ⟨Nat.le_refl _⟩, ⟨by repeat (first | (with_reducible first | exact HB.out | apply below_alloc | apply pw_below_drewN | apply below_drew1) | exact HB.out)⟩⟩
       case round =>
        clear H'
        try clear p2
        try clear c4
        try clear c5
        try clear c6
        try clear c7
        try clear c8
        try clear c9
        try clear c9b0
        try clear p2
        obtain ⟨x10_3, x11_3, x12_3, rfl, rfl, rfl, HA, HK3, HB⟩ := hrel
        cases gk with
        | zero => exact absurd HA.out (by simp [spec_DoesOpenAll.l1])
        | succ k3 =>
         have H := HA.out
         clear HA
         simp only [spec_DoesOpenAll.l1] at H
         by_cases c10 : x12_3 < a2
         ·
          rw [if_pos c10] at H
          have c10b0 : decide (x12_3 < a2) = true := decide_eq_true c10
          clear c10
          by_cases c11 : a1 = 0
          ·
           rw [if_pos c11] at H
           exact absurd H (by simp)
          ·
           rw [if_neg c11] at H
           have c11b0 : (a1 == 0) = false := beq_eq_false_iff_ne.mpr c11
           have c11b1 : (a1 != 0) = true := bne_iff_ne.mpr c11
           replace H := Option.bind_eq_some_iff.mp H
           obtain ⟨t103, A120, H⟩ := H
           replace H : (if t103.size + x10_3.size ≤ 9223372036854775807 then (spec_DoesOpenAll.l1 k3 a0 a1 a2 t101 x9_2 (t103 ++ x10_3) (wrap64 (Int.tdiv x11_3 a1)) (wrap64 (x12_3 + 1))) else (none)) = some (r1, r2) := H
           have A12 := Aside0.mk A120
           clear A120
           by_cases c13 : t103.size + x10_3.size ≤ 9223372036854775807
           ·
            rw [if_pos c13] at H
            have c13b0 := eq_true c13
            have c13b1 : decide (t103.size + x10_3.size ≤ 9223372036854775807) = true := decide_eq_true c13
            try have c13b2 : (9223372036854775807 < t103.size + x10_3.size) = False := eq_false (Nat.not_lt.2 c13)
            have H' := Aside0.mk H
            clear H
            go_wp2_with (first | ((with_reducible refine gate_callee (f := 46) rfl ?_); refine goesL_ (some 37) rfl rfl Tryd.func46 (by kernel_rfl) rfl #[.int .i64 (Int.tmod x11_3 a1)] rfl (by (try simp only [List.map_toArray, List.map_cons, List.map_nil]); first | done | rfl | (simp only [List.length_drop, List.length_take]; rfl)) ?_; (with_reducible refine (spec_l1Num.calls k3 (Int.tmod x11_3 a1) t103 _ A12.out).mono ?_); rintro e w14 ⟨rfl, hb⟩; refine ⟨_, rfl, ?_⟩; have n0_ := Aside0.mk (below_step (by repeat (first | (with_reducible first | exact HB.out | apply below_alloc | apply pw_below_drewN | apply below_drew1) | exact HB.out)) hb); clear HB; have HB := n0_; clear n0_; (try clear hb); (try clear hb2); (try clear hk); (try clear hi)))
            go_roundg k3
            case measure => have := HJ4.out; have := HK2.out; have := HK3.out; omega
            case rel => exact ⟨(t103 ++ x10_3), (wrap64 (Int.tdiv x11_3 a1)), (wrap64 (x12_3 + 1)), (by first | rfl | (simp; done) | (simp [*]; done)), (by first | rfl | (simp; done) | (simp [*]; done)), (by first | rfl | (simp; done) | (simp [*]; done)), H', ⟨by have := HJ4.out; have := HK2.out; have := HK3.out; omega⟩, ⟨by repeat (first | (with_reducible first | exact HB.out | apply below_alloc | apply pw_below_drewN | apply below_drew1) | exact HB.out)⟩⟩
           ·
            rw [if_neg c13] at H
            exact absurd H (by simp)
         ·
          rw [if_neg c10] at H
          have c10b0 : decide (x12_3 < a2) = false := decide_eq_false c10
          clear c10
          replace H := Option.bind_eq_some_iff.mp H
          obtain ⟨t104, A150, H⟩ := H
          replace H : (if t104 < 0 then (some (false, true)) else (spec_DoesOpenAll.l0 k3 a0 a1 a2 t101 (wrap64 (x9_2 + 1)))) = some (r1, r2) := H
          have A15 := Aside0.mk A150
          clear A150
          by_cases c16 : t104 < 0
          ·
           rw [if_pos c16] at H
           have c16b0 : decide (t104 < 0) = true := decide_eq_true c16
           clear c16
           simp only [Option.some.injEq, Prod.mk.injEq] at H
           obtain ⟨rfl, rfl⟩ := H
           go_wp2_with (first | ((with_reducible refine gate_callee (f := 53) rfl ?_); refine goesL_ (some 45) rfl rfl Tryd.func53 (by kernel_rfl) rfl #[.string a0, .string x10_3] rfl (by (try simp only [List.map_toArray, List.map_cons, List.map_nil]); first | done | rfl | (simp only [List.length_drop, List.length_take]; rfl)) ?_; (with_reducible refine (spec_piOpens.calls k3 a0 x10_3 t104 _ A15.out).mono ?_); rintro e w' ⟨rfl, ⟨nd, rfl⟩⟩; refine ⟨_, rfl, ?_⟩))
           go_ret2
           exact ⟨by first | rfl | (simp [errW_none, errW_some] <;> rfl) | (simp [*, errW_none, errW_some] <;> rfl), by repeat (first | (with_reducible first | exact HB.out | apply below_alloc | apply pw_below_drewN | apply below_drew1) | exact HB.out)⟩
          ·
           rw [if_neg c16] at H
           have c16b0 : decide (t104 < 0) = false := decide_eq_false c16
           clear c16
           have H' := Aside0.mk H
           clear H
           go_wp2_with (first | ((with_reducible refine gate_callee (f := 53) rfl ?_); refine goesL_ (some 45) rfl rfl Tryd.func53 (by kernel_rfl) rfl #[.string a0, .string x10_3] rfl (by (try simp only [List.map_toArray, List.map_cons, List.map_nil]); first | done | rfl | (simp only [List.length_drop, List.length_take]; rfl)) ?_; (with_reducible refine (spec_piOpens.calls k3 a0 x10_3 t104 _ A15.out).mono ?_); rintro e w' ⟨rfl, ⟨nd, rfl⟩⟩; refine ⟨_, rfl, ?_⟩))
           go_roundg k3
           case measure => have := HJ4.out; have := HK2.out; have := HK3.out; omega
           case rel => exact ⟨(wrap64 (x9_2 + 1)), (by first | rfl | (simp; done) | (simp [*]; done)), H', ⟨by have := HJ4.out; have := HK2.out; have := HK3.out; omega⟩, ⟨by repeat (first | (with_reducible first | exact HB.out | apply below_alloc | apply pw_below_drewN | apply below_drew1) | exact HB.out)⟩⟩
      ·
       rw [if_neg c9] at H
       have c9b0 : decide (x9_2 < t101) = false := decide_eq_false c9
       clear c9
       simp only [Option.some.injEq, Prod.mk.injEq] at H
       obtain ⟨rfl, rfl⟩ := H
       go_wp2
       go_ret2
       exact ⟨by first | rfl | (simp [errW_none, errW_some] <;> rfl) | (simp [*, errW_none, errW_some] <;> rfl), by repeat (first | (with_reducible first | exact HB.out | apply below_alloc | apply pw_below_drewN | apply below_drew1) | exact HB.out)⟩

end Go.Proofs.YtjnkfnabbekinaaDoor.P

-- printed by xprint.py
namespace Go.Proofs.YtjnkfnabbekinaaDoor.P
open Go.RowKit Go.Proofs.YtjnkfnabbekinaaDoorW.PrintWords Go.Proofs.YtjnkfnabbekinaaDoorW.PrintLast Go.Proofs.YtjnkfnabbekinaaDoorW.PrintMore
attribute [local go_sem] max2_int min2_int max_two min_two max_three min_three max_four min_four   -- for this text's walks alone
set_option linter.unusedVariables false
set_option linter.unusedSimpArgs false

/-! ### laws_FnExactDoesOpenAll: function 13 -/
def laws_FnExactDoesOpenAll.f (k : Nat) (a0 : ByteArray) (a1 : Int) (a2 : Int) : Option (Bool) := if (a0.size : Int) > 1048576 then (some true) else ((spec_DoesOpenAll.f k a0 a1 a2).bind fun bt101 => ((impl_DoesOpenAll.f k a0 a1 a2).bind fun bt103 => (if (bt103.1 != bt101.1) = true then (some false) else (if (bt103.2 != bt101.2) = true then (some false) else (some true)))))
theorem laws_FnExactDoesOpenAll.mono : ∀ y0 y1 y2 k, LeO (laws_FnExactDoesOpenAll.f k y0 y1 y2) (laws_FnExactDoesOpenAll.f (k + 1) y0 y1 y2) := by
 intro y0 y1 y2 k
 unfold laws_FnExactDoesOpenAll.f
 repeat' first
   | (with_reducible exact impl_DoesOpenAll.mono _ _ _ _)
   | (with_reducible exact spec_DoesOpenAll.mono _ _ _ _)
   | (with_reducible exact LeO.refl _)
   | (with_reducible exact LeO.none _)
   | (with_reducible refine LeO.ite ?_ ?_)
   | (with_reducible refine LeO.bind ?_ (fun _ => ?_))
   | exact impl_DoesOpenAll.mono _ _ _ _
   | exact spec_DoesOpenAll.mono _ _ _ _
   | exact LeO.none _
   | refine LeO.ite ?_ ?_
   | refine LeO.bind ?_ (fun _ => ?_)
set_option maxHeartbeats 8000000 in
set_option maxRecDepth 100000 in
theorem laws_FnExactDoesOpenAll.calls (k : Nat) (a0 : ByteArray) (a1 : Int) (a2 : Int) (r : Bool) (w : World) (hml : ∃ m_ : Int, w.cell? ⟨0, 0, none⟩ = some (.int .i64 m_)) (h : laws_FnExactDoesOpenAll.f k a0 a1 a2 = some r) :
  Calls Tryd.prog 13 #[.string a0, .int .i64 a1, .int .i64 a2] w fun e w' => e = .returned (.bool r) ∧ Below w.heap.size w w' := by
 obtain ⟨ml_, hml⟩ := hml
 have HML := Aside0.mk hml
 clear hml
 have HB := Aside0.mk (Below.refl w.heap.size w)
 have H : (if (a0.size : Int) > 1048576 then (some true) else ((spec_DoesOpenAll.f k a0 a1 a2).bind fun bt101 => ((impl_DoesOpenAll.f k a0 a1 a2).bind fun bt103 => (if (bt103.1 != bt101.1) = true then (some false) else (if (bt103.2 != bt101.2) = true then (some false) else (some true)))))) = some r := h
 clear h
 by_cases c4 : (a0.size : Int) > 1048576
 ·
  rw [if_pos c4] at H
  have c4b0 : decide (1048576 < (a0.size : Int)) = true := decide_eq_true c4
  have c4b1 : decide (1048576 < a0.size) = true := decide_eq_true (by omega)
  clear c4
  obtain rfl := Option.some.inj H
  go_enter Tryd.func13, Tryd.ntmps13
  go_wp2
  go_ret
  exact ⟨by first | rfl | (simp [errW_none, errW_some] <;> rfl) | (simp [*, errW_none, errW_some] <;> rfl), by repeat (first | (with_reducible first | exact HB.out | apply below_alloc | apply pw_below_drewN | apply below_drew1) | exact HB.out)⟩
 ·
  rw [if_neg c4] at H
  have c4b0 : decide (1048576 < (a0.size : Int)) = false := decide_eq_false c4
  have c4b1 : decide (1048576 < a0.size) = false := decide_eq_false (by omega)
  clear c4
  replace H := Option.bind_eq_some_iff.mp H
  obtain ⟨⟨t101, t102⟩, A50, H⟩ := H
  replace H : ((impl_DoesOpenAll.f k a0 a1 a2).bind fun bt103 => (if (bt103.1 != t101) = true then (some false) else (if (bt103.2 != t102) = true then (some false) else (some true)))) = some r := H
  have A5 := Aside0.mk A50
  clear A50
  replace H := Option.bind_eq_some_iff.mp H
  obtain ⟨⟨t103, t104⟩, A60, H⟩ := H
  replace H : (if (t103 != t101) = true then (some false) else (if (t104 != t102) = true then (some false) else (some true))) = some r := H
  have A6 := Aside0.mk A60
  clear A60
  by_cases c7 : (t103 != t101) = true
  ·
   rw [if_pos c7] at H
   have c7b0 : (t103 != t101) = true := c7
   (try (have c7b1 : decide (t103 = t101) = false := by simpa using c7))
   (try (have c7b2 : (t103 == t101) = false := by simpa using c7))
   (try (have c7b3 : ¬ (t103 = t101) := by simpa using c7))
   clear c7
   obtain rfl := Option.some.inj H
   go_enter Tryd.func13, Tryd.ntmps13
   go_wp2_with (first | ((with_reducible refine gate_callee (f := 41) rfl ?_); refine goesL_ (some 18) rfl rfl Tryd.func41 (by kernel_rfl) rfl #[.string a0, .int .i64 a1, .int .i64 a2] rfl (by (try simp only [List.map_toArray, List.map_cons, List.map_nil]); first | done | rfl | (simp only [List.length_drop, List.length_take]; rfl)) ?_; (with_reducible refine (spec_DoesOpenAll.calls k a0 a1 a2 t101 t102 _ A5.out).mono ?_); rintro e w8 ⟨rfl, hb⟩; refine ⟨_, rfl, ?_⟩; have n0_ := Aside0.mk (below_step (by repeat (first | (with_reducible first | exact HB.out | apply below_alloc | apply pw_below_drewN | apply below_drew1) | exact HB.out)) hb); clear HB; have HB := n0_; clear n0_; (try clear hb); (try clear hb2); (try clear hk); (try clear hi)) | ((with_reducible refine gate_callee (f := 42) rfl ?_); refine goesL_ (some 25) rfl rfl Tryd.func42 (by kernel_rfl) rfl #[.string a0, .int .i64 a1, .int .i64 a2] rfl (by (try simp only [List.map_toArray, List.map_cons, List.map_nil]); first | done | rfl | (simp only [List.length_drop, List.length_take]; rfl)) ?_; (with_reducible refine (impl_DoesOpenAll.calls k a0 a1 a2 t103 t104 _ (by first | exact ⟨_, HML.out⟩ | (with_unfolding_all exact ⟨_, HML.out⟩) | exact ⟨_, (HB.out.cell (World.block_lt_of_cell? _ _ HML.out)).trans HML.out⟩) A6.out).mono ?_); rintro e w9 ⟨rfl, hb⟩; refine ⟨_, rfl, ?_⟩; have n0_ := Aside0.mk (below_step (by repeat (first | (with_reducible first | exact HB.out | apply below_alloc | apply pw_below_drewN | apply below_drew1) | exact HB.out)) hb); clear HB; have HB := n0_; clear n0_; (try clear hb); (try clear hb2); (try clear hk); (try clear hi)))
   go_ret
   exact ⟨by first | rfl | (simp [errW_none, errW_some] <;> rfl) | (simp [*, errW_none, errW_some] <;> rfl), by repeat (first | (with_reducible first | exact HB.out | apply below_alloc | apply pw_below_drewN | apply below_drew1) | exact HB.out)⟩
  ·
   rw [if_neg c7] at H
   have c7b0 : (t103 != t101) = false := by simpa using c7
   (try (have c7b1 : decide (t103 = t101) = true := by simpa using c7))
   (try (have c7b2 : (t103 == t101) = true := by simpa using c7))
   clear c7
   by_cases c10 : (t104 != t102) = true
   ·
    rw [if_pos c10] at H
    have c10b0 : (t104 != t102) = true := c10
    (try (have c10b1 : decide (t104 = t102) = false := by simpa using c10))
    (try (have c10b2 : (t104 == t102) = false := by simpa using c10))
    (try (have c10b3 : ¬ (t104 = t102) := by simpa using c10))
    clear c10
    obtain rfl := Option.some.inj H
    go_enter Tryd.func13, Tryd.ntmps13
    go_wp2_with (first | ((with_reducible refine gate_callee (f := 41) rfl ?_); refine goesL_ (some 18) rfl rfl Tryd.func41 (by kernel_rfl) rfl #[.string a0, .int .i64 a1, .int .i64 a2] rfl (by (try simp only [List.map_toArray, List.map_cons, List.map_nil]); first | done | rfl | (simp only [List.length_drop, List.length_take]; rfl)) ?_; (with_reducible refine (spec_DoesOpenAll.calls k a0 a1 a2 t101 t102 _ A5.out).mono ?_); rintro e w11 ⟨rfl, hb⟩; refine ⟨_, rfl, ?_⟩; have n0_ := Aside0.mk (below_step (by repeat (first | (with_reducible first | exact HB.out | apply below_alloc | apply pw_below_drewN | apply below_drew1) | exact HB.out)) hb); clear HB; have HB := n0_; clear n0_; (try clear hb); (try clear hb2); (try clear hk); (try clear hi)) | ((with_reducible refine gate_callee (f := 42) rfl ?_); refine goesL_ (some 25) rfl rfl Tryd.func42 (by kernel_rfl) rfl #[.string a0, .int .i64 a1, .int .i64 a2] rfl (by (try simp only [List.map_toArray, List.map_cons, List.map_nil]); first | done | rfl | (simp only [List.length_drop, List.length_take]; rfl)) ?_; (with_reducible refine (impl_DoesOpenAll.calls k a0 a1 a2 t103 t104 _ (by first | exact ⟨_, HML.out⟩ | (with_unfolding_all exact ⟨_, HML.out⟩) | exact ⟨_, (HB.out.cell (World.block_lt_of_cell? _ _ HML.out)).trans HML.out⟩) A6.out).mono ?_); rintro e w12 ⟨rfl, hb⟩; refine ⟨_, rfl, ?_⟩; have n0_ := Aside0.mk (below_step (by repeat (first | (with_reducible first | exact HB.out | apply below_alloc | apply pw_below_drewN | apply below_drew1) | exact HB.out)) hb); clear HB; have HB := n0_; clear n0_; (try clear hb); (try clear hb2); (try clear hk); (try clear hi)))
    go_ret
    exact ⟨by first | rfl | (simp [errW_none, errW_some] <;> rfl) | (simp [*, errW_none, errW_some] <;> rfl), by repeat (first | (with_reducible first | exact HB.out | apply below_alloc | apply pw_below_drewN | apply below_drew1) | exact HB.out)⟩
   ·
    rw [if_neg c10] at H
    have c10b0 : (t104 != t102) = false := by simpa using c10
    (try (have c10b1 : decide (t104 = t102) = true := by simpa using c10))
    (try (have c10b2 : (t104 == t102) = true := by simpa using c10))
    clear c10
    obtain rfl := Option.some.inj H
    go_enter Tryd.func13, Tryd.ntmps13
    go_wp2_with (first | ((with_reducible refine gate_callee (f := 41) rfl ?_); refine goesL_ (some 18) rfl rfl Tryd.func41 (by kernel_rfl) rfl #[.string a0, .int .i64 a1, .int .i64 a2] rfl (by (try simp only [List.map_toArray, List.map_cons, List.map_nil]); first | done | rfl | (simp only [List.length_drop, List.length_take]; rfl)) ?_; (with_reducible refine (spec_DoesOpenAll.calls k a0 a1 a2 t101 t102 _ A5.out).mono ?_); rintro e w13 ⟨rfl, hb⟩; refine ⟨_, rfl, ?_⟩; have n0_ := Aside0.mk (below_step (by repeat (first | (with_reducible first | exact HB.out | apply below_alloc | apply pw_below_drewN | apply below_drew1) | exact HB.out)) hb); clear HB; have HB := n0_; clear n0_; (try clear hb); (try clear hb2); (try clear hk); (try clear hi)) | ((with_reducible refine gate_callee (f := 42) rfl ?_); refine goesL_ (some 25) rfl rfl Tryd.func42 (by kernel_rfl) rfl #[.string a0, .int .i64 a1, .int .i64 a2] rfl (by (try simp only [List.map_toArray, List.map_cons, List.map_nil]); first | done | rfl | (simp only [List.length_drop, List.length_take]; rfl)) ?_; (with_reducible refine (impl_DoesOpenAll.calls k a0 a1 a2 t103 t104 _ (by first | exact ⟨_, HML.out⟩ | (with_unfolding_all exact ⟨_, HML.out⟩) | exact ⟨_, (HB.out.cell (World.block_lt_of_cell? _ _ HML.out)).trans HML.out⟩) A6.out).mono ?_); rintro e w14 ⟨rfl, hb⟩; refine ⟨_, rfl, ?_⟩; have n0_ := Aside0.mk (below_step (by repeat (first | (with_reducible first | exact HB.out | apply below_alloc | apply pw_below_drewN | apply below_drew1) | exact HB.out)) hb); clear HB; have HB := n0_; clear n0_; (try clear hb); (try clear hb2); (try clear hk); (try clear hi)))
    go_ret
    exact ⟨by first | rfl | (simp [errW_none, errW_some] <;> rfl) | (simp [*, errW_none, errW_some] <;> rfl), by repeat (first | (with_reducible first | exact HB.out | apply below_alloc | apply pw_below_drewN | apply below_drew1) | exact HB.out)⟩

end Go.Proofs.YtjnkfnabbekinaaDoor.P

namespace Go.Proofs.YtjnkfnabbekinaaDoor
open Go.RowKit Go.Proofs.YtjnkfnabbekinaaDoor.P Go.Proofs.YtjnkfnabbekinaaDoorW.PrintWords Go.Proofs.YtjnkfnabbekinaaDoorW.PrintLast
/-- The pure statement of FnExactDoesOpenAll. -/
def PureFnExactDoesOpenAll : Prop := ∀ (a0 : ByteArray) (a1 : Int) (a2 : Int), a0.size ≤ 9223372036854775807 → (Lit.int .i64 a1).wf = true → (Lit.int .i64 a2).wf = true →  ∃ k, laws_FnExactDoesOpenAll.f k a0 a1 a2 = some true
end Go.Proofs.YtjnkfnabbekinaaDoor

namespace Go.Proofs.YtjnkfnabbekinaaDoor
open Go.RowKit Go.Proofs.YtjnkfnabbekinaaDoorW.PrintWords
/-! Plain words for the pure statements: answers that stand from some number of rounds on. -/
theorem Ev.succ {α : Type} {g : Nat → Option α} {r : α} (h : Ev (fun k => g (k + 1)) r) : Ev g r := Ev.step (fun _ => rfl) h
theorem Ev.const {α : Type} {a : Option α} {r : α} (h : a = some r) : Ev (fun _ => a) r := ⟨0, fun _ _ => h⟩
theorem Ev.pos {α : Type} {c : Prop} [Decidable c] {g f : Nat → Option α} {r : α} (hc : c) (h : Ev g r) : Ev (fun k => if c then g k else f k) r := by simp only [if_pos hc]; exact h
theorem Ev.neg {α : Type} {c : Prop} [Decidable c] {g f : Nat → Option α} {r : α} (hc : ¬ c) (h : Ev f r) : Ev (fun k => if c then g k else f k) r := by simp only [if_neg hc]; exact h
theorem Ev.yes {α : Type} {c : Prop} [Decidable c] {g f : Nat → Option α} {r : α} (h : Ev g r) (hc : c := by first | omega | rfl | trivial | decide | simp | (simp; omega)) : Ev (fun k => if c then g k else f k) r := Ev.pos hc h
theorem Ev.no {α : Type} {c : Prop} [Decidable c] {g f : Nat → Option α} {r : α} (h : Ev f r) (hc : ¬ c := by first | omega | decide | simp | (simp; omega)) : Ev (fun k => if c then g k else f k) r := Ev.neg hc h
theorem Ev.bindc {α β : Type} {a : Option α} {x : α} {f : Nat → α → Option β} {r : β} (h : a = some x) (k : Ev (fun n => f n x) r) : Ev (fun n => a.bind (f n)) r := by subst h; exact k
theorem wrap_id {n : Int} (h1 : -9223372036854775808 ≤ n) (h2 : n ≤ 9223372036854775807) : wrap64 n = n := IntWalk.wrap64_in n ⟨h1, h2⟩
theorem wf_i64 {n : Int} (h : (Lit.int .i64 n).wf = true) : -9223372036854775808 ≤ n ∧ n ≤ 9223372036854775807 := by
  have e1 : IntKind.i64.min = -9223372036854775808 := rfl
  have e2 : IntKind.i64.max = 9223372036854775807 := rfl
  simp only [Lit.wf, e1, e2, Bool.and_eq_true, decide_eq_true_eq] at h
  exact h
theorem rd_nat (l : List Int) (j : Nat) (h : j < l.length) : rd l (j : Int) = l[j] := by unfold rd; simp [List.getD, h]
end Go.Proofs.YtjnkfnabbekinaaDoor

namespace Go.Proofs.YtjnkfnabbekinaaDoor
open Go.RowKit Go.Proofs.YtjnkfnabbekinaaDoorW.PrintWords
set_option linter.unusedSimpArgs false
set_option linter.unusedVariables false
/-! Strings as lists of bytes. -/
/-- A string's bytes. -/
def bl (s : ByteArray) : List UInt8 := s.data.toList
theorem bl_len (s : ByteArray) : s.size = (bl s).length := rfl
theorem bl_inj {s t : ByteArray} (h : bl s = bl t) : s = t := ByteArray.ext (Array.toList_inj.1 h)
theorem bl_toList (s : ByteArray) : s.toList = bl s := Go.ByteArray.toList_eq s
theorem bl_mk (a : Array UInt8) : bl ⟨a⟩ = a.toList := rfl
theorem mk_bl (s : ByteArray) : (⟨(bl s).toArray⟩ : ByteArray) = s := bl_inj (by simp [bl])
theorem bl_extract (s : ByteArray) (i j : Nat) : bl (s.extract i j) = ((bl s).drop i).take (j - i) := by simp [bl, ByteArray.data_extract]
theorem bl_append (s t : ByteArray) : bl (s ++ t) = bl s ++ bl t := by simp [bl, ByteArray.data_append]
theorem bl_nums (l : List Int) : bl (strOfNums l) = l.map fun n => UInt8.ofNat n.toNat := rfl
theorem bl_empty : bl (⟨#[]⟩ : ByteArray) = [] := rfl
theorem bt_nat (s : ByteArray) (i : Nat) (h : i < (bl s).length) : bt s (i : Int) = ((bl s)[i].toNat : Int) := by
  unfold bt
  have h' : ((i : Int)).toNat < s.size := by rw [Int.toNat_natCast]; exact h
  rw [dif_pos h']; rfl
theorem of_toNat (c : UInt8) : UInt8.ofNat ((c.toNat : Int)).toNat = c := by rw [Int.toNat_natCast]; simp
theorem bt_of (s : ByteArray) (i : Nat) (h : i < (bl s).length) : UInt8.ofNat (bt s (i : Int)).toNat = (bl s)[i] := by rw [bt_nat s i h]; exact of_toNat _
theorem byte_eq (c d : UInt8) : ((c.toNat : Int) = (d.toNat : Int)) ↔ c = d := by
  constructor
  · intro h; exact UInt8.toNat_inj.1 (by exact_mod_cast h)
  · intro h; rw [h]
theorem byte_lt (c d : UInt8) : ((c.toNat : Int) < (d.toNat : Int)) ↔ c < d := by rw [UInt8.lt_iff_toNat_lt]; omega
theorem byte_le (c d : UInt8) : ((c.toNat : Int) ≤ (d.toNat : Int)) ↔ c ≤ d := by rw [UInt8.le_iff_toNat_le]; omega
theorem dropWhile_nil {α : Type} (p : α → Bool) : ∀ l : List α, l.dropWhile p = [] ↔ l.all p = true
  | [] => by simp
  | x :: xs => by
    by_cases h : p x = true
    · simp [List.dropWhile_cons, h, dropWhile_nil p xs]
    · simp [List.dropWhile_cons, h]
theorem dropWhile_keeps {α : Type} (p : α → Bool) : ∀ l : List α, (l.dropWhile p).all p = l.all p
  | [] => rfl
  | x :: xs => by
    by_cases h : p x = true
    · simp only [List.dropWhile_cons, h, if_true, List.all_cons, Bool.true_and]; exact dropWhile_keeps p xs
    · simp [List.dropWhile_cons, h]
theorem trimS_nil (l cs : List UInt8) : Lib.trimS l cs = [] ↔ l.all (cs.contains ·) = true := by
  unfold Lib.trimS Lib.trimLeftS Lib.trimRightS
  rw [dropWhile_nil, List.all_reverse, dropWhile_keeps, List.all_reverse]
theorem indexByte_neg (l : List UInt8) (c : UInt8) : Lib.indexByte l c < 0 ↔ ¬ c ∈ l := by
  induction l with
  | nil => simp [Lib.indexByte]
  | cons b l ih =>
    have hge := Lib.indexByte_ge l c
    unfold Lib.indexByte
    by_cases h : b = c
    · subst h; simp
    · have h1 : (b == c) = false := by simpa using h
      rw [h1]
      have h2 : ¬ c = b := fun e => h e.symm
      simp only [Bool.false_eq_true, if_false, List.mem_cons, h2, false_or]
      by_cases e : Lib.indexByte l c = -1
      · simp only [e, beq_self_eq_true, if_true]
        have := ih.1 (by omega)
        simp [this]
      · have e' : (Lib.indexByte l c == -1) = false := by simpa using e
        rw [e']
        simp only [Bool.false_eq_true, if_false]
        have hp : ¬ Lib.indexByte l c < 0 := by omega
        have := mt ih.2 hp
        constructor
        · intro h3; omega
        · intro h3; exact absurd h3 this
/-- The letters. -/
def isLow (c : UInt8) : Bool := decide (97 ≤ c.toNat) && decide (c.toNat ≤ 122)
theorem u8_all (P : UInt8 → Prop) [DecidablePred P] (h : ∀ n, n < 256 → P (UInt8.ofNat n)) (c : UInt8) : P c := by
  have := h c.toNat c.toNat_lt
  rwa [show UInt8.ofNat c.toNat = c from by simp] at this
theorem low_contains (c : UInt8) : ([97, 98, 99, 100, 101, 102, 103, 104, 105, 106, 107, 108, 109, 110, 111, 112, 113, 114, 115, 116, 117, 118, 119, 120, 121, 122] : List UInt8).contains c = isLow c := by
  refine u8_all (fun c => _ = isLow c) ?_ c
  decide +kernel
theorem dig_contains (c : UInt8) : ([48, 49, 50, 51, 52, 53, 54, 55, 56, 57] : List UInt8).contains c = (decide (48 ≤ c.toNat) && decide (c.toNat ≤ 57)) := by
  refine u8_all (fun c => _ = (decide (48 ≤ c.toNat) && decide (c.toNat ≤ 57))) ?_ c
  decide +kernel
end Go.Proofs.YtjnkfnabbekinaaDoor

namespace Go.Proofs.YtjnkfnabbekinaaDoor
open Go.RowKit Go.Proofs.YtjnkfnabbekinaaDoor.P Go.Proofs.YtjnkfnabbekinaaDoorW.PrintWords
set_option linter.unusedSimpArgs false
set_option linter.unusedVariables false
theorem in_eq (n a b : Int) : impl_in.f n a b = some (decide (a ≤ n) && decide (n ≤ b)) := by
  unfold impl_in.f
  by_cases h : a ≤ n
  · rw [if_pos h]; simp [h]
  · rw [if_neg h]; simp [h]
theorem l1In_eq (n a b : Int) : spec_l1In.f n a b = some (decide (a ≤ n) && decide (n ≤ b)) := by
  unfold spec_l1In.f
  by_cases h : a ≤ n
  · rw [if_pos h]; simp [h]
  · rw [if_neg h]; simp [h]
end Go.Proofs.YtjnkfnabbekinaaDoor

namespace Go.Proofs.YtjnkfnabbekinaaDoor
open Go.RowKit Go.Proofs.YtjnkfnabbekinaaDoor.P Go.Proofs.YtjnkfnabbekinaaDoorW.PrintWords
set_option linter.unusedSimpArgs false
set_option linter.unusedVariables false
theorem over_eq (s cs : ByteArray) (h1 : s.size ≤ 9223372036854775807) (h2 : cs.size < 4294967281) (h3 : (bl cs).all (fun b => decide (b.toNat < 128)) = true) : impl_over.f s cs = some ((bl s).all ((bl cs).contains ·)) := by
  unfold impl_over.f strings_Trim.f
  rw [if_pos ⟨h1, h2, h3⟩]
  simp only [Option.bind_some]
  congr 1
  rw [bl_toList, bl_mk, List.toList_toArray]
  have := trimS_nil (bl s) (bl cs)
  unfold bl at this ⊢
  rw [Bool.eq_iff_iff, beq_iff_eq]
  exact this
/-- Is it a digit's sign? -/
def isDig (c : UInt8) : Bool := decide (48 ≤ c.toNat) && decide (c.toNat ≤ 57)
theorem overDig_eq (s : ByteArray) (h1 : s.size ≤ 9223372036854775807) : impl_over.f s (⟨#[48, 49, 50, 51, 52, 53, 54, 55, 56, 57]⟩ : ByteArray) = some ((bl s).all isDig) := by
  rw [over_eq s _ h1 (by decide) (by decide)]
  congr 1
  congr 1
  funext c
  exact dig_contains c
/-- Digits, of a length. -/
def digsB (l : List UInt8) (a b : Nat) : Bool := decide (a ≤ l.length) && decide (l.length ≤ b) && l.all isDig
theorem isDigits_eq (s : ByteArray) (a b : Nat) (h1 : s.size ≤ 9223372036854775807) : impl_isDigits.f s a b = some (digsB (bl s) a b) := by
  unfold impl_isDigits.f digsB
  rw [in_eq]
  have e : (decide ((a : Int) ≤ (s.size : Int)) && decide ((s.size : Int) ≤ (b : Int))) = (decide (a ≤ (bl s).length) && decide ((bl s).length ≤ b)) := by
    rw [bl_len]; congr 1 <;> (rw [decide_eq_decide]; omega)
  rw [e]
  simp only [Option.bind_some]
  cases (decide (a ≤ (bl s).length) && decide ((bl s).length ≤ b)) with
  | false => rfl
  | true => rw [if_pos rfl, overDig_eq s h1]; rfl
theorem isDig_at {l : List UInt8} (h : l.all isDig = true) (i : Nat) (hi : i < l.length) : 48 ≤ l[i].toNat ∧ l[i].toNat ≤ 57 := by
  have := List.all_eq_true.1 h _ (List.getElem_mem hi)
  unfold isDig at this
  simpa only [Bool.and_eq_true, decide_eq_true_eq] using this
end Go.Proofs.YtjnkfnabbekinaaDoor

-- printed by xprint.py
namespace Go.Proofs.YtjnkfnabbekinaaDoor.P
open Go.RowKit Go.Proofs.YtjnkfnabbekinaaDoorW.PrintWords Go.Proofs.YtjnkfnabbekinaaDoorW.PrintLast Go.Proofs.YtjnkfnabbekinaaDoorW.PrintMore
attribute [local go_sem] max2_int min2_int max_two min_two max_three min_three max_four min_four   -- for this text's walks alone
set_option linter.unusedVariables false
set_option linter.unusedSimpArgs false

/-! ### impl_IsPin: function 15 -/
def impl_IsPin.f (a0 : ByteArray) : Option (Bool) := (impl_isDigits.f a0 2 4).bind fun t101 => (some t101)
set_option maxHeartbeats 8000000 in
set_option maxRecDepth 100000 in
theorem impl_IsPin.calls (a0 : ByteArray) (r : Bool) (w : World) (h : impl_IsPin.f a0 = some r) :
  Calls Tryd.prog 15 #[.string a0] w fun e w' => e = .returned (.bool r) ∧ Below w.heap.size w w' := by
 have HB := Aside0.mk (Below.refl w.heap.size w)
 have H : ((impl_isDigits.f a0 2 4).bind fun t101 => (some t101)) = some r := h
 clear h
 replace H := Option.bind_eq_some_iff.mp H
 obtain ⟨t101, A20, H⟩ := H
 replace H : (some t101) = some r := H
 have A2 := Aside0.mk A20
 clear A20
 obtain rfl := Option.some.inj H
 go_enter Tryd.func15, Tryd.ntmps15
 go_wp2_with (first | ((with_reducible refine gate_callee (f := 44) rfl ?_); refine goesL_ (some 4) rfl rfl Tryd.func44 (by kernel_rfl) rfl #[.string a0, .int .i64 2, .int .i64 4] rfl (by (try simp only [List.map_toArray, List.map_cons, List.map_nil]); first | done | rfl | (simp only [List.length_drop, List.length_take]; rfl)) ?_; (with_reducible refine (impl_isDigits.calls a0 2 4 t101 _ A2.out).mono ?_); rintro e w3 ⟨rfl, hb⟩; refine ⟨_, rfl, ?_⟩; have n0_ := Aside0.mk (below_step (by repeat (first | (with_reducible first | exact HB.out | apply below_alloc | apply pw_below_drewN | apply below_drew1) | exact HB.out)) hb); clear HB; have HB := n0_; clear n0_; (try clear hb); (try clear hb2); (try clear hk); (try clear hi)))
 go_ret
 exact ⟨by first | rfl | (simp [errW_none, errW_some] <;> rfl) | (simp [*, errW_none, errW_some] <;> rfl), by repeat (first | (with_reducible first | exact HB.out | apply below_alloc | apply pw_below_drewN | apply below_drew1) | exact HB.out)⟩

end Go.Proofs.YtjnkfnabbekinaaDoor.P

-- printed by xprint.py
namespace Go.Proofs.YtjnkfnabbekinaaDoor.P
open Go.RowKit Go.Proofs.YtjnkfnabbekinaaDoorW.PrintWords Go.Proofs.YtjnkfnabbekinaaDoorW.PrintLast Go.Proofs.YtjnkfnabbekinaaDoorW.PrintMore
attribute [local go_sem] max2_int min2_int max_two min_two max_three min_three max_four min_four   -- for this text's walks alone
set_option linter.unusedVariables false
set_option linter.unusedSimpArgs false

/-! ### spec_piPin: function 43 -/
def spec_piPin.f (k : Nat) (a0 : ByteArray) : Option (Bool) := (spec_piDigits.f k a0 2 4).bind fun t101 => (some t101)
theorem spec_piPin.mono : ∀ y0 k, LeO (spec_piPin.f k y0) (spec_piPin.f (k + 1) y0) := by
 intro y0 k
 unfold spec_piPin.f
 repeat' first
   | (with_reducible exact spec_piDigits.mono _ _ _ _)
   | (with_reducible exact LeO.refl _)
   | (with_reducible exact LeO.none _)
   | (with_reducible refine LeO.ite ?_ ?_)
   | (with_reducible refine LeO.bind ?_ (fun _ => ?_))
   | exact spec_piDigits.mono _ _ _ _
   | exact LeO.none _
   | refine LeO.ite ?_ ?_
   | refine LeO.bind ?_ (fun _ => ?_)
set_option maxHeartbeats 8000000 in
set_option maxRecDepth 100000 in
theorem spec_piPin.calls (k : Nat) (a0 : ByteArray) (r : Bool) (w : World) (h : spec_piPin.f k a0 = some r) :
  Calls Tryd.prog 43 #[.string a0] w fun e w' => e = .returned (.bool r) ∧ Drawn0 w w' := by
 have H : ((spec_piDigits.f k a0 2 4).bind fun t101 => (some t101)) = some r := h
 clear h
 replace H := Option.bind_eq_some_iff.mp H
 obtain ⟨t101, A20, H⟩ := H
 replace H : (some t101) = some r := H
 have A2 := Aside0.mk A20
 clear A20
 obtain rfl := Option.some.inj H
 go_enter Tryd.func43, Tryd.ntmps43
 go_wp2_with (first | ((with_reducible refine gate_callee (f := 52) rfl ?_); refine goesL_ (some 4) rfl rfl Tryd.func52 (by kernel_rfl) rfl #[.string a0, .int .i64 2, .int .i64 4] rfl (by (try simp only [List.map_toArray, List.map_cons, List.map_nil]); first | done | rfl | (simp only [List.length_drop, List.length_take]; rfl)) ?_; (with_reducible refine (spec_piDigits.calls k a0 2 4 t101 _ A2.out).mono ?_); rintro e w' ⟨rfl, ⟨nd, rfl⟩⟩; refine ⟨_, rfl, ?_⟩))
 go_ret
 exact ⟨by first | rfl | (simp; done) | (simp [*]; done), by repeat (first | exact Drawn0.refl _ | apply Drawn0.step)⟩

end Go.Proofs.YtjnkfnabbekinaaDoor.P

namespace Go.Proofs.YtjnkfnabbekinaaDoor
open Go.RowKit Go.Proofs.YtjnkfnabbekinaaDoor.P Go.Proofs.YtjnkfnabbekinaaDoorW.PrintWords
set_option linter.unusedSimpArgs false
set_option linter.unusedVariables false
theorem piDigits_l0 (s : ByteArray) (hs : s.size ≤ 9223372036854775806) : ∀ (d i : Nat), i + d = s.size → Ev (fun k => spec_piDigits.l0 k s i) (((bl s).drop i).all isDig)
  | 0, i, hi => by
    apply Ev.succ
    simp only [spec_piDigits.l0]
    refine Ev.neg (by omega) (Ev.const ?_)
    rw [List.drop_of_length_le (by rw [← bl_len]; omega)]; rfl
  | d + 1, i, hi => by
    have hlt : i < (bl s).length := by rw [← bl_len]; omega
    apply Ev.succ
    simp only [spec_piDigits.l0]
    refine Ev.pos (by omega) (Ev.pos (by omega) ?_)
    rw [wrap_id (by omega) (by omega), bt_nat s i hlt, List.drop_eq_getElem_cons hlt, List.all_cons]
    by_cases c1 : ((bl s)[i].toNat : Int) < 48
    · refine Ev.pos c1 (Ev.const ?_)
      have : isDig (bl s)[i] = false := by unfold isDig; rw [Bool.and_eq_false_iff]; left; rw [decide_eq_false_iff_not]; omega
      rw [this]; rfl
    · refine Ev.neg c1 ?_
      by_cases c2 : ((bl s)[i].toNat : Int) > 57
      · refine Ev.pos c2 (Ev.const ?_)
        have : isDig (bl s)[i] = false := by unfold isDig; rw [Bool.and_eq_false_iff]; right; rw [decide_eq_false_iff_not]; omega
        rw [this]; rfl
      · refine Ev.neg c2 ?_
        have : isDig (bl s)[i] = true := by unfold isDig; rw [Bool.and_eq_true, decide_eq_true_eq, decide_eq_true_eq]; omega
        rw [this, Bool.true_and]
        exact_mod_cast piDigits_l0 s hs d (i + 1) (by omega)
theorem piDigits_ev (s : ByteArray) (a b : Nat) (hb : b ≤ 1048576) : Ev (fun k => spec_piDigits.f k s a b) (digsB (bl s) a b) := by
  unfold spec_piDigits.f digsB
  refine Ev.bindc (l1In_eq _ _ _) ?_
  have e : (decide ((a : Int) ≤ (s.size : Int)) && decide ((s.size : Int) ≤ (b : Int))) = (decide (a ≤ (bl s).length) && decide ((bl s).length ≤ b)) := by
    rw [bl_len]; congr 1 <;> (rw [decide_eq_decide]; omega)
  rw [e]
  cases h : (decide (a ≤ (bl s).length) && decide ((bl s).length ≤ b)) with
  | false => exact Ev.no (Ev.now _)
  | true =>
    have : s.size ≤ b := by simp only [Bool.and_eq_true, decide_eq_true_eq] at h; rw [bl_len]; omega
    refine Ev.yes ?_
    rw [Bool.true_and]
    exact piDigits_l0 s (by omega) s.size 0 (by omega)
/-- Is it a pin? -/
def pinB (l : List UInt8) : Bool := digsB l 2 4
theorem isPin_eq (s : ByteArray) (h1 : s.size ≤ 9223372036854775807) : impl_IsPin.f s = some (pinB (bl s)) := by
  unfold impl_IsPin.f pinB
  rw [show impl_isDigits.f s 2 4 = some (digsB (bl s) 2 4) from isDigits_eq s 2 4 h1]; rfl
theorem piPin_ev (s : ByteArray) : Ev (fun k => spec_piPin.f k s) (pinB (bl s)) := by
  unfold spec_piPin.f pinB
  exact Ev.bind (piDigits_ev s 2 4 (by omega)) (Ev.now _)
theorem pinB_len {l : List UInt8} (h : pinB l = true) : 2 ≤ l.length ∧ l.length ≤ 4 ∧ l.all isDig = true := by
  unfold pinB digsB at h
  simp only [Bool.and_eq_true, decide_eq_true_eq] at h
  exact ⟨h.1.1, h.1.2, h.2⟩
end Go.Proofs.YtjnkfnabbekinaaDoor

namespace Go.Proofs.YtjnkfnabbekinaaDoor
open Go.RowKit Go.Proofs.YtjnkfnabbekinaaDoor.P Go.Proofs.YtjnkfnabbekinaaDoorW.PrintWords
set_option linter.unusedSimpArgs false
set_option linter.unusedVariables false
/-! Where a pin stands in a text for the first time. -/
/-- Behind how many signs a lock opens, or -1. -/
def opensV (s p : List UInt8) : Int := if Lib.index s p < 0 then -1 else Lib.index s p + p.length
theorem occ_at (s p : List UInt8) (j : Nat) : Lib.occAt s p j = decide ((s.drop j).take p.length = p) := by
  unfold Lib.occAt
  rw [Bool.eq_iff_iff, List.isPrefixOf_iff_prefix, List.prefix_iff_eq_take, decide_eq_true_iff]
  exact ⟨fun h => h.symm, fun h => h.symm⟩
theorem opens_l0 (s p : ByteArray) (hs : s.size ≤ 1048576) (hp : p.size ≤ 1048576) : ∀ (d j : Nat), j + p.size + d = s.size + 1 → (∀ i, i < j → Lib.occAt (bl s) (bl p) i = false) → Ev (fun k => spec_piOpens.l0 k s p ((j + p.size : Nat) : Int)) (opensV (bl s) (bl p))
  | 0, j, hj, hn => by
    have es : s.size = (bl s).length := rfl
    have ep : p.size = (bl p).length := rfl
    apply Ev.succ; simp only [spec_piOpens.l0]
    refine Ev.neg (by omega) (Ev.const ?_)
    congr 1
    unfold opensV
    rw [if_pos]
    rcases Lib.index_spec (bl s) (bl p) with ⟨h1, _⟩ | ⟨i, h1, h2, h3, _⟩
    · omega
    · have hr := Lib.index_room (bl s) (bl p) (by omega)
      rw [hn i (by omega)] at h3
      cases h3
  | d + 1, j, hj, hn => by
    have es : s.size = (bl s).length := rfl
    have ep : p.size = (bl p).length := rfl
    have e1 : wrap64 (((j + p.size : Nat) : Int) - (p.size : Int)) = (j : Int) := by rw [wrap_id (by omega) (by omega)]; omega
    have e2 : wrap64 (((j + p.size : Nat) : Int) + 1) = ((j + 1 + p.size : Nat) : Int) := by rw [wrap_id (by omega) (by omega)]; omega
    have eo := occ_at (bl s) (bl p) j
    have ex : (s.extract j (j + p.size)).toList = ((bl s).drop j).take (bl p).length := by
      rw [bl_toList, bl_extract, show j + p.size - j = p.size by omega]; rfl
    have ih := fun h => opens_l0 s p hs hp d (j + 1) (by omega) h
    apply Ev.succ; simp only [spec_piOpens.l0, e1, e2, Int.toNat_natCast, ex, bl_toList]
    clear e1 e2 ex
    refine Ev.pos (by omega) (Ev.pos (by omega) (Ev.pos (by omega) ?_))
    by_cases c : ((bl s).drop j).take (bl p).length = bl p
    · refine Ev.pos c (Ev.const ?_)
      congr 1
      rw [decide_eq_true c] at eo
      unfold opensV
      rcases Lib.index_spec (bl s) (bl p) with ⟨h1, h2⟩ | ⟨i, h1, h2, h3, h4⟩
      · rw [h2 j (by omega)] at eo; cases eo
      · have hij : i = j := by
          rcases Nat.lt_trichotomy i j with h | h | h
          · rw [hn i h] at h3; cases h3
          · exact h
          · rw [h4 j h] at eo; cases eo
        subst hij
        rw [if_neg (by omega), h1]
        omega
    · refine Ev.neg c (ih fun i hi => ?_)
      rcases Nat.lt_or_ge i j with h | h
      · exact hn i h
      · obtain rfl : i = j := by omega
        rw [eo, decide_eq_false c]
theorem opens_ev (s p : ByteArray) (hs : s.size ≤ 1048576) (hp : p.size ≤ 1048576) : Ev (fun k => spec_piOpens.f k s p) (opensV (bl s) (bl p)) := by
  unfold spec_piOpens.f
  by_cases c : p.size ≤ s.size + 1
  · have := opens_l0 s p hs hp (s.size + 1 - p.size) 0 (by omega) (fun i hi => by omega)
    rw [Nat.zero_add] at this
    exact this
  · have es : s.size = (bl s).length := rfl
    have ep : p.size = (bl p).length := rfl
    apply Ev.succ; simp only [spec_piOpens.l0]
    refine Ev.neg (by omega) (Ev.const ?_)
    congr 1
    unfold opensV
    rw [if_pos]
    rcases Lib.index_spec (bl s) (bl p) with ⟨h1, _⟩ | ⟨i, h1, h2, h3, _⟩
    · omega
    · have hr := Lib.index_room (bl s) (bl p) (by omega)
      omega
theorem opens_neg (s p : List UInt8) : opensV s p < 0 ↔ Lib.contains s p = false := by
  unfold opensV Lib.contains
  rw [decide_eq_false_iff_not]
  split <;> omega
end Go.Proofs.YtjnkfnabbekinaaDoor

namespace Go.Proofs.YtjnkfnabbekinaaDoor
open Go.RowKit Go.Proofs.YtjnkfnabbekinaaDoor.P Go.Proofs.YtjnkfnabbekinaaDoorW.PrintWords
set_option linter.unusedSimpArgs false
set_option linter.unusedVariables false
set_option linter.unusedSectionVars false
/-! All texts of the first digits, in order; whether all of them stand in a text. -/
/-- The digits of a number, so many of them, to a base. -/
def dgB (b : Nat) : Nat → Nat → List UInt8
  | 0, _ => []
  | n + 1, x => dgB b n (x / b) ++ [UInt8.ofNat (48 + x % b)]
theorem dgB_len (b : Nat) : ∀ n x : Nat, (dgB b n x).length = n
  | 0, _ => rfl
  | n + 1, x => by unfold dgB; rw [List.length_append, dgB_len b n]; rfl
def txB (b n x : Nat) : ByteArray := ⟨(dgB b n x).toArray⟩
theorem bl_txB (b n x : Nat) : bl (txB b n x) = dgB b n x := by simp [txB, bl]
theorem txB_size (b n x : Nat) : (txB b n x).size = n := by rw [bl_len, bl_txB, dgB_len]
def allB (b n : Nat) : List ByteArray := (List.range (b ^ n)).map (txB b n)
theorem allB_len (b n : Nat) : (allB b n).length = b ^ n := by unfold allB; simp
theorem powB {b n : Nat} (hb : b ≤ 10) (h : n ≤ 4) : b ^ n ≤ 10000 := by
  have h1 : b ^ n ≤ 10 ^ n := Nat.pow_le_pow_left hb n
  have h2 : 10 ^ n ≤ 10 ^ 4 := Nat.pow_le_pow_right (by omega) h
  have : 10 ^ 4 = 10000 := rfl
  omega
theorem numB_bl (x : Nat) (hx : x < 10) : bl (strOfNums ([(wrap64 (48 + (x : Int))) % 256] : List Int)) = [UInt8.ofNat (48 + x)] := by
  rw [bl_nums]
  simp only [List.map_cons, List.map_nil]
  rw [wrap_id (by omega) (by omega), show (48 + (x : Int)) % 256 = ((48 + x : Nat) : Int) by omega, Int.toNat_natCast]
theorem digB_ext (d : Nat) (hd : d < 10) : bl ((⟨#[48, 49, 50, 51, 52, 53, 54, 55, 56, 57]⟩ : ByteArray).extract d (d + 1)) = [UInt8.ofNat (48 + d)] := by
  have : ∀ e : Fin 10, bl ((⟨#[48, 49, 50, 51, 52, 53, 54, 55, 56, 57]⟩ : ByteArray).extract e.val (e.val + 1)) = [UInt8.ofNat (48 + e.val)] := by decide +kernel
  exact this ⟨d, hd⟩
theorem rdSB (l : List ByteArray) (j : Nat) (h : j < l.length) : rdOf ByteArray.empty l (j : Int) = l[j] := by unfold rdOf; simp [List.getD, h]
section
variable (b n : Nat) (hb0 : 1 ≤ b) (hb : b ≤ 10) (hn : n ≤ 4)
include hb0 hb hn
theorem allB_l2 (r : Nat) (hr : r < n) (i : Nat) (hi : i < b ^ r) (R : List ByteArray) (hR : Ev (fun k => impl_allTexts.l1 k (b : Int) ((List.range (b * (i + 1))).map (txB b (r + 1))) (n : Int) (r : Int) (allB b r) ((b ^ r : Nat) : Int) ((i + 1 : Nat) : Int)) R) : ∀ (e d : Nat), d + e = b →
    Ev (fun k => impl_allTexts.l2 k (b : Int) ((List.range (b * i + d)).map (txB b (r + 1))) (txB b r i) (n : Int) (r : Int) (allB b r) ((b ^ r : Nat) : Int) (i : Int) (b : Int) (d : Int)) R
  | 0, d, hd => by
    have hp := powB (n := r) hb (by omega)
    obtain rfl : d = b := by omega
    apply Ev.succ; simp only [impl_allTexts.l2]
    refine Ev.neg (by omega) ?_
    rw [show wrap64 ((i : Int) + 1) = ((i + 1 : Nat) : Int) by rw [wrap_id (by omega) (by omega)]; omega, show d * i + d = d * (i + 1) by rw [Nat.mul_succ]]
    exact hR
  | e + 1, d, hd => by
    have hp := powB (n := r) hb (by omega)
    have ih := allB_l2 r hr i hi R hR e (d + 1) (by omega)
    have hx := digB_ext d (by omega)
    have e1 : wrap64 ((d : Int) + 1) = ((d + 1 : Nat) : Int) := by rw [wrap_id (by omega) (by omega)]; omega
    have q1 : (b * i + d) / b = i := by rw [Nat.mul_add_div (by omega), Nat.div_eq_of_lt (by omega), Nat.add_zero]
    have q2 : (b * i + d) % b = d := by rw [Nat.mul_add_mod, Nat.mod_eq_of_lt (by omega)]
    have ht : txB b r i ++ (⟨#[48, 49, 50, 51, 52, 53, 54, 55, 56, 57]⟩ : ByteArray).extract d (d + 1) = txB b (r + 1) (b * i + d) := bl_inj (by rw [bl_append, hx, bl_txB, bl_txB, dgB, q1, q2])
    have hz : (txB b r i).size + ((⟨#[48, 49, 50, 51, 52, 53, 54, 55, 56, 57]⟩ : ByteArray).extract d (d + 1)).size ≤ 9223372036854775807 := by rw [txB_size, bl_len (ByteArray.extract _ _ _), hx, List.length_singleton]; omega
    have hm : b * i ≤ 10 * 10000 := Nat.mul_le_mul hb (by omega)
    rw [show b * i + (d + 1) = b * i + d + 1 by omega, List.range_succ, List.map_append, List.map_singleton, ← ht] at ih
    apply Ev.succ; simp only [impl_allTexts.l2, e1, Int.toNat_natCast, List.length_map, List.length_range]
    generalize b * i = P at hm ih q1 q2 ht
    refine Ev.pos (by omega) (Ev.pos (by omega) (Ev.pos (by omega) (Ev.pos (by omega) (Ev.pos hz (Ev.pos (by omega) ?_)))))
    exact ih
theorem allB_l1 (r : Nat) (hr : r < n) (R : List ByteArray) (hR : Ev (fun k => impl_allTexts.l0 k (b : Int) (allB b (r + 1)) (n : Int) ((r + 1 : Nat) : Int)) R) : ∀ (e i : Nat), i + e = b ^ r →
    Ev (fun k => impl_allTexts.l1 k (b : Int) ((List.range (b * i)).map (txB b (r + 1))) (n : Int) (r : Int) (allB b r) ((b ^ r : Nat) : Int) (i : Int)) R
  | 0, i, hi => by
    apply Ev.succ; simp only [impl_allTexts.l1]
    refine Ev.neg (by omega) ?_
    rw [show wrap64 ((r : Int) + 1) = ((r + 1 : Nat) : Int) by rw [wrap_id (by omega) (by omega)]; omega, show b * i = b ^ (r + 1) by rw [Nat.pow_succ, Nat.mul_comm, show i = b ^ r by omega]]
    exact hR
  | e + 1, i, hi => by
    have hl := allB_l2 b n hb0 hb hn r hr i (by omega) R (allB_l1 r hr R hR e (i + 1) (by omega)) b 0 (by omega)
    have ha : (allB b r).length = b ^ r := allB_len b r
    apply Ev.succ; simp only [impl_allTexts.l1, ha]
    refine Ev.pos (by omega) (Ev.pos (by omega) (Ev.pos (by omega) ?_))
    rw [rdSB _ i (by omega)]
    rw [show (allB b r)[i]'(by omega) = txB b r i by unfold allB; simp]
    exact hl
theorem allB_l0 : ∀ (e r : Nat), r + e = n → Ev (fun k => impl_allTexts.l0 k (b : Int) (allB b r) (n : Int) (r : Int)) (allB b n)
  | 0, r, hr => by
    apply Ev.succ; simp only [impl_allTexts.l0]
    refine Ev.neg (by omega) (Ev.const ?_)
    rw [show r = n by omega]
  | e + 1, r, hr => by
    have h := allB_l1 b n hb0 hb hn r (by omega) (allB b n) (allB_l0 e (r + 1) (by omega)) (b ^ r) 0 (by omega)
    rw [Nat.mul_zero, List.range_zero, List.map_nil] at h
    apply Ev.succ; simp only [impl_allTexts.l0, allB_len]
    exact Ev.pos (by omega) h
theorem allTextsB_ev : Ev (fun k => impl_allTexts.f k (b : Int) (n : Int)) (allB b n) := by
  unfold impl_allTexts.f
  have h := allB_l0 b n hb0 hb hn n 0 (by omega)
  have e : allB b 0 = [(⟨#[]⟩ : ByteArray)] := by
    unfold allB
    simp only [Nat.pow_zero, List.range_one, List.map_cons, List.map_nil]
    congr 1
  rw [e] at h
  exact h
end
/-! Is there one of which F answers true. -/
theorem idxT_l0 (l : List ByteArray) (hl : l.length ≤ 1048576) (F : ByteArray → Option Bool) (p : ByteArray → Bool) (hF : ∀ g ∈ l, F g = some (p g)) : ∀ (d i : Nat), i + d = l.length → ∃ r, Ev (fun k => slices_IndexFunc_string_string.l0 k l F (l.length : Int) (i : Int)) r ∧ (r ≥ 0 ↔ (l.drop i).any p = true)
  | 0, i, hi => by
    refine ⟨-1, ?_, ?_⟩
    · apply Ev.succ; simp only [slices_IndexFunc_string_string.l0]; exact Ev.neg (by omega) (Ev.now _)
    · rw [List.drop_of_length_le (by omega)]; simp
  | d + 1, i, hi => by
    have hlt : i < l.length := by omega
    rw [List.drop_eq_getElem_cons hlt, List.any_cons]
    have hf := hF _ (List.getElem_mem hlt)
    have e1 : wrap64 ((i : Int) + 1) = ((i + 1 : Nat) : Int) := by rw [wrap_id (by omega) (by omega)]; omega
    cases hb : p l[i] with
    | true =>
      refine ⟨i, ?_, by simp⟩
      apply Ev.succ; simp only [slices_IndexFunc_string_string.l0]
      rw [rdSB l i hlt, hf, hb]
      exact Ev.pos (by omega) (Ev.pos (by omega) (Ev.pos (by omega) (Ev.bindc rfl (Ev.pos rfl (Ev.now _)))))
    | false =>
      obtain ⟨r, hr, h⟩ := idxT_l0 l hl F p hF d (i + 1) (by omega)
      refine ⟨r, ?_, by rw [h]; simp⟩
      apply Ev.succ; simp only [slices_IndexFunc_string_string.l0, e1]
      rw [rdSB l i hlt, hf, hb]
      exact Ev.pos (by omega) (Ev.pos (by omega) (Ev.pos (by omega) (Ev.bindc rfl (Ev.no hr))))
theorem anyT_ev (l : List ByteArray) (hl : l.length ≤ 1048576) (F : ByteArray → Option Bool) (p : ByteArray → Bool) (hF : ∀ g ∈ l, F g = some (p g)) : Ev (fun k => slices_ContainsFunc_string_string.f k l F) (l.any p) := by
  obtain ⟨r, hr, h⟩ := idxT_l0 l hl F p hF l.length 0 (by omega)
  unfold slices_ContainsFunc_string_string.f slices_IndexFunc_string_string.f
  refine Ev.bind hr (Ev.const ?_)
  rw [List.drop_zero] at h
  congr 1
  rw [Bool.eq_iff_iff, decide_eq_true_iff]; exact h
/-! The numbers of digits and signs. -/
def locksB (b n : Int) : Bool := (decide (1 ≤ b) && decide (b ≤ 10)) && (decide (2 ≤ n) && decide (n ≤ 4)) && decide (b.toNat ^ n.toNat ≤ 300)
section
variable (b n : Nat) (hb : b ≤ 10) (hn : n ≤ 4)
include hb hn
theorem piAll_l0 : ∀ (e r : Nat), r + e = n → Ev (fun k => spec_piAll.l0 k (b : Int) (e : Int) ((b ^ r : Nat) : Int)) (if b ^ n ≤ 300 then ((b ^ n : Nat) : Int) else -1)
  | 0, r, hr => by
    obtain rfl : r = n := by omega
    apply Ev.succ; simp only [spec_piAll.l0]
    refine Ev.neg (by omega) ?_
    by_cases c : b ^ r ≤ 300
    · rw [if_pos c]; exact Ev.neg (by omega) (Ev.now _)
    · rw [if_neg c]; exact Ev.pos (by omega) (Ev.now _)
  | e + 1, r, hr => by
    have hp := powB (n := r) hb (by omega)
    have hm : b ^ r * b ≤ 10000 * 10 := Nat.mul_le_mul hp hb
    have ih := piAll_l0 e (r + 1) (by omega)
    apply Ev.succ; simp only [spec_piAll.l0]
    refine Ev.pos (by omega) ?_
    rw [show wrap64 (((e + 1 : Nat) : Int) - 1) = (e : Int) by rw [wrap_id (by omega) (by omega)]; omega]
    rw [show wrap64 (((b ^ r : Nat) : Int) * (b : Int)) = ((b ^ (r + 1) : Nat) : Int) by rw [Nat.pow_succ, ← Int.natCast_mul, wrap_id (by omega) (by omega)]]
    exact ih
theorem locks_l0 : ∀ (e r : Nat), r + e = n → Ev (fun k => impl_locksOk.l0 k (b : Int) ((b ^ r : Nat) : Int) (n : Int) (r : Int)) (decide (b ^ n ≤ 300))
  | 0, r, hr => by
    obtain rfl : r = n := by omega
    apply Ev.succ; simp only [impl_locksOk.l0]
    refine Ev.neg (by omega) (Ev.const ?_)
    congr 1
    rw [decide_eq_decide]; omega
  | e + 1, r, hr => by
    have hp := powB (n := r) hb (by omega)
    have hm : b ^ r * b ≤ 10000 * 10 := Nat.mul_le_mul hp hb
    have ih := locks_l0 e (r + 1) (by omega)
    apply Ev.succ; simp only [impl_locksOk.l0]
    refine Ev.pos (by omega) ?_
    rw [show wrap64 ((r : Int) + 1) = ((r + 1 : Nat) : Int) by rw [wrap_id (by omega) (by omega)]; omega]
    rw [show wrap64 (((b ^ r : Nat) : Int) * (b : Int)) = ((b ^ (r + 1) : Nat) : Int) by rw [Nat.pow_succ, ← Int.natCast_mul, wrap_id (by omega) (by omega)]]
    exact ih
end
theorem piAll_ev (b n : Int) : Ev (fun k => spec_piAll.f k b n) (if locksB b n = true then ((b.toNat ^ n.toNat : Nat) : Int) else -1) := by
  have bad : Ev (fun k => spec_piAll.j0 k b n true) (-1) := Ev.succ (by simp only [spec_piAll.j0]; exact Ev.pos (by trivial) (Ev.now _))
  unfold spec_piAll.f locksB
  refine Ev.bindc (l1In_eq _ _ _) ?_
  cases h1 : (decide (1 ≤ b) && decide (b ≤ 10)) with
  | false => rw [Bool.false_and, Bool.false_and, if_neg (by decide)]; exact Ev.neg (by decide) bad
  | true =>
    refine Ev.pos rfl (Ev.bindc (l1In_eq _ _ _) ?_)
    cases h2 : (decide (2 ≤ n) && decide (n ≤ 4)) with
    | false => rw [Bool.and_false, Bool.false_and, if_neg (by decide)]; exact bad
    | true =>
      simp only [Bool.and_eq_true, decide_eq_true_eq] at h1 h2
      have go := piAll_l0 b.toNat n.toNat (by omega) (by omega) n.toNat 0 (by omega)
      rw [Int.toNat_of_nonneg (by omega), Int.toNat_of_nonneg (by omega), Nat.pow_zero] at go
      rw [Bool.true_and, Bool.true_and]
      simp only [decide_eq_true_eq]
      apply Ev.succ; simp only [spec_piAll.j0]
      exact Ev.neg (by decide) go
theorem locks_ev (b n : Int) : Ev (fun k => impl_locksOk.f k b n) (locksB b n) := by
  have bad : Ev (fun k => impl_locksOk.j0 k b n true) false := Ev.succ (by simp only [impl_locksOk.j0]; exact Ev.pos (by trivial) (Ev.now _))
  unfold impl_locksOk.f impl_pinLong.f locksB
  refine Ev.bindc (in_eq _ _ _) ?_
  cases h1 : (decide (1 ≤ b) && decide (b ≤ 10)) with
  | false => rw [Bool.false_and, Bool.false_and]; exact Ev.neg (by decide) bad
  | true =>
    refine Ev.pos rfl (Ev.bindc (x := decide (2 ≤ n) && decide (n ≤ 4)) (by rw [in_eq]; rfl) ?_)
    cases h2 : (decide (2 ≤ n) && decide (n ≤ 4)) with
    | false => rw [Bool.and_false, Bool.false_and]; exact bad
    | true =>
      simp only [Bool.and_eq_true, decide_eq_true_eq] at h1 h2
      have go := locks_l0 b.toNat n.toNat (by omega) (by omega) n.toNat 0 (by omega)
      rw [Int.toNat_of_nonneg (by omega), Int.toNat_of_nonneg (by omega), Nat.pow_zero] at go
      rw [Bool.true_and, Bool.true_and]
      apply Ev.succ; simp only [impl_locksOk.j0]
      exact Ev.neg (by decide) go
/-! The reference's loop. -/
section
variable (s : ByteArray) (hs : s.size ≤ 1300) (b n : Nat) (hb0 : 1 ≤ b) (hb : b ≤ 10) (hn : n ≤ 4)
include hs hb0 hb hn
theorem open_l1 (v : Nat) (hv : v ≤ 10000) (all : Int) (R : Bool × Bool) (hR : Ev (fun k => (spec_piOpens.f k s (txB b n v)).bind fun t104 => (if t104 < 0 then (some (false, true)) else (spec_DoesOpenAll.l0 k s (b : Int) (n : Int) all (wrap64 ((v : Int) + 1))))) R) : ∀ (e i x : Nat) (out : ByteArray), i + e = n → x ≤ 10000 → out.size ≤ i → txB b e x ++ out = txB b n v → Ev (fun k => spec_DoesOpenAll.l1 k s (b : Int) (n : Int) all (v : Int) out (x : Int) (i : Int)) R
  | 0, i, x, out, hi, hx, ho, he => by
    have e0 : out = txB b n v := by rw [← he]; exact bl_inj (by rw [bl_append, bl_txB]; rfl)
    subst e0
    apply Ev.succ; simp only [spec_DoesOpenAll.l1]
    exact Ev.neg (by omega) hR
  | e + 1, i, x, out, hi, hx, ho, he => by
    have hr : x % b < b := Nat.mod_lt _ (by omega)
    have hq : x / b ≤ x := Nat.div_le_self _ _
    have hd := numB_bl (x % b) (by omega)
    have hz : (strOfNums ([(wrap64 (48 + ((x % b : Nat) : Int))) % 256] : List Int)).size = 1 := by rw [bl_len, hd]; rfl
    have hz2 : (strOfNums ([(wrap64 (48 + ((x % b : Nat) : Int))) % 256] : List Int) ++ out).size = 1 + out.size := by rw [ByteArray.size_append, hz]
    have he2 : txB b e (x / b) ++ (strOfNums ([(wrap64 (48 + ((x % b : Nat) : Int))) % 256] : List Int) ++ out) = txB b n v := by
      rw [← he]; exact bl_inj (by rw [bl_append, bl_append, bl_append, bl_txB, bl_txB, hd, dgB]; simp)
    have ih := open_l1 v hv all R hR e (i + 1) (x / b) _ (by omega) (by omega) (by rw [hz2]; omega) he2
    apply Ev.succ; simp only [spec_DoesOpenAll.l1]
    refine Ev.pos (by omega) (Ev.neg (by omega) (Ev.bind (a := strOfNums ([(wrap64 (48 + ((x % b : Nat) : Int))) % 256] : List Int)) ?_ (Ev.pos (by rw [hz]; omega) ?_)))
    · rw [show Int.tmod (x : Int) (b : Int) = ((x % b : Nat) : Int) by rw [Int.tmod_eq_emod_of_nonneg (by omega)]; rfl]
      apply Ev.succ; simp only [spec_l1Num.f]
      exact Ev.pos (by omega) (Ev.now _)
    · rw [show wrap64 (Int.tdiv (x : Int) (b : Int)) = ((x / b : Nat) : Int) by
        rw [Int.tdiv_eq_ediv_of_nonneg (by omega), show (x : Int) / (b : Int) = ((x / b : Nat) : Int) from rfl]
        generalize x / b = q at hq
        exact wrap_id (by omega) (by omega), show wrap64 ((i : Int) + 1) = ((i + 1 : Nat) : Int) by rw [wrap_id (by omega) (by omega)]; omega]
      exact ih
theorem open_l0 (N : Nat) (hN : N ≤ 10000) : ∀ (e v : Nat), v + e = N → Ev (fun k => spec_DoesOpenAll.l0 k s (b : Int) (n : Int) (N : Int) (v : Int)) ((((List.range N).drop v).map (txB b n)).all (fun p => Lib.contains (bl s) (bl p)), true)
  | 0, v, hv => by
    rw [List.drop_of_length_le (by simp; omega)]
    apply Ev.succ; simp only [spec_DoesOpenAll.l0]
    exact Ev.neg (by omega) (Ev.now _)
  | e + 1, v, hv => by
    have ih := open_l0 N hN e (v + 1) (by omega)
    rw [List.drop_eq_getElem_cons (by simp; omega), List.getElem_range, List.map_cons, List.all_cons]
    apply Ev.succ; simp only [spec_DoesOpenAll.l0]
    refine Ev.pos (by omega) ?_
    refine open_l1 s hs b n hb0 hb hn v (by omega) _ _ ?_ n 0 v _ (by omega) (by omega) (Nat.le_refl _) (bl_inj (by rw [bl_append, bl_empty, List.append_nil]))
    have hs2 : (txB b n v).size ≤ 1048576 := by rw [txB_size]; omega
    refine Ev.bind (opens_ev s (txB b n v) (by omega) hs2) ?_
    by_cases c : opensV (bl s) (bl (txB b n v)) < 0
    · rw [(opens_neg _ _).1 c]
      exact Ev.pos c (Ev.now _)
    · have : Lib.contains (bl s) (bl (txB b n v)) = true := by
        cases hc : Lib.contains (bl s) (bl (txB b n v)) with
        | true => rfl
        | false => exact absurd ((opens_neg _ _).2 hc) c
      rw [this, Bool.true_and]
      refine Ev.neg c ?_
      rw [show wrap64 ((v : Int) + 1) = ((v + 1 : Nat) : Int) by rw [wrap_id (by omega) (by omega)]; omega]
      exact ih
end
theorem digsB_len {l : List UInt8} {a b : Nat} (h : digsB l a b = true) : l.length ≤ b := by
  unfold digsB at h
  simp only [Bool.and_eq_true, decide_eq_true_eq] at h
  exact h.1.2
theorem doesOpen_ev (s : ByteArray) (hs : s.size ≤ 1048576) (b n : Int) : ∃ r : Bool × Bool, Ev (fun k => spec_DoesOpenAll.f k s b n) r ∧ Ev (fun k => impl_DoesOpenAll.f k s b n) r := by
  have d1 := piDigits_ev s 0 1300 (by omega)
  have d2 : impl_isDigits.f s 0 1300 = some (digsB (bl s) 0 1300) := isDigits_eq s 0 1300 (by omega)
  have badS : ∀ all, Ev (fun k => spec_DoesOpenAll.j0 k s b n all true) (false, false) := fun all => Ev.succ (by simp only [spec_DoesOpenAll.j0]; exact Ev.pos (by trivial) (Ev.now _))
  have badI : Ev (fun k => impl_DoesOpenAll.j0 k b n true s) (false, false) := Ev.succ (by simp only [impl_DoesOpenAll.j0]; exact Ev.pos (by trivial) (Ev.now _))
  have pa := piAll_ev b n
  have lo := locks_ev b n
  unfold spec_DoesOpenAll.f impl_DoesOpenAll.f
  cases h1 : digsB (bl s) 0 1300 with
  | false => exact ⟨(false, false), Ev.bind pa (Ev.bind d1 (by rw [h1]; exact Ev.neg (by decide) (badS _))), Ev.bindc (by rw [d2, h1]) (Ev.neg (by decide) badI)⟩
  | true =>
    have hsz := digsB_len h1
    cases h2 : locksB b n with
    | false =>
      rw [h2] at pa lo
      rw [if_neg (by decide)] at pa
      exact ⟨(false, false), Ev.bind pa (Ev.bind d1 (by rw [h1]; exact Ev.pos rfl (badS _))), Ev.bindc (by rw [d2, h1]) (Ev.pos rfl (Ev.bind lo badI))⟩
    | true =>
      rw [h2] at pa lo
      rw [if_pos rfl] at pa
      unfold locksB at h2
      simp only [Bool.and_eq_true, decide_eq_true_eq] at h2
      obtain ⟨⟨⟨b1, b2⟩, ⟨n1, n2⟩⟩, h3⟩ := h2
      obtain ⟨B, rfl⟩ := Int.eq_ofNat_of_zero_le (show 0 ≤ b by omega)
      obtain ⟨N, rfl⟩ := Int.eq_ofNat_of_zero_le (show 0 ≤ n by omega)
      rw [Int.toNat_natCast, Int.toNat_natCast] at pa h3
      have sp := open_l0 s hsz B N (by omega) (by omega) (by omega) (B ^ N) (by omega) (B ^ N) 0 (by omega)
      rw [List.drop_zero] at sp
      have im := anyT_ev (allB B N) (by rw [allB_len]; omega) (fun z0_ => impl_DoesOpenAll_1.f z0_ s) (fun p => !Lib.contains (bl s) (bl p)) (fun g hg => by
        unfold impl_DoesOpenAll_1.f strings_Contains.f
        rw [if_pos (by omega)]; rfl)
      refine ⟨((allB B N).all (fun p => Lib.contains (bl s) (bl p)), true), Ev.bind pa (Ev.bind d1 ?_), Ev.bindc (by rw [d2, h1]) (Ev.pos rfl (Ev.bind lo ?_))⟩
      · rw [h1]
        refine Ev.pos rfl ?_
        rw [decide_eq_false (by omega)]
        apply Ev.succ; simp only [spec_DoesOpenAll.j0]
        exact Ev.neg (by decide) sp
      · apply Ev.succ; simp only [impl_DoesOpenAll.j0]
        refine Ev.neg (by decide) (Ev.bind (allTextsB_ev B N (by omega) (by omega) (by omega)) (Ev.bind im (Ev.const ?_)))
        rw [← List.not_all_eq_any_not, Bool.not_not]
end Go.Proofs.YtjnkfnabbekinaaDoor

/- FnExactDoesOpenAll: both sides say the same of every text and every number of digits: over the functions that the walk computes. -/
namespace Go.Proofs.YtjnkfnabbekinaaDoor
open Go.RowKit Go.Proofs.YtjnkfnabbekinaaDoor.P Go.Proofs.YtjnkfnabbekinaaDoorW.PrintWords
theorem pure_FnExactDoesOpenAll : PureFnExactDoesOpenAll := by
  intro s b n
  intros
  refine Ev.rounds (g := fun k => laws_FnExactDoesOpenAll.f k s b n) ?_
  unfold laws_FnExactDoesOpenAll.f
  by_cases c1 : s.size ≤ 1048576
  · obtain ⟨r, hs, hi⟩ := doesOpen_ev s c1 b n
    exact Ev.neg (by omega) (Ev.bind hs (Ev.bind hi (Ev.neg (by simp) (Ev.neg (by simp) (Ev.now _)))))
  · exact Ev.pos (by omega) (Ev.now _)
end Go.Proofs.YtjnkfnabbekinaaDoor

namespace Go.Proofs.YtjnkfnabbekinaaDoor
open Go.RowKit Go.Proofs.YtjnkfnabbekinaaDoorW.PrintWords Go.ChangeShapes Go.WideShapes

theorem C_scalar {α : Type} {enc : α → Value} {h1 : ∀ x, (enc x).oneCell' = true} {w : World} {A : Option Addr} {l : List α} (hn : l.length ≤ 9223372036854775807)
    (hcell : 0 < l.length → ∃ ad, A = some ad ∧ ∀ j x, l[j]? = some x → w.cell? (ad.add j) = some (enc x)) : (Kd.scalar enc h1).C w A l.length l := by
  refine ⟨rfl, hn, fun hp => ?_⟩
  obtain ⟨ad, hA, hc⟩ := hcell hp
  refine ⟨ad, hA, fun j x hx => ⟨[enc x], rfl, rfl, fun i u hu => ?_⟩⟩
  match i, hu with
  | 0, hu =>
    have : enc x = u := by simpa using hu
    subst this
    show w.cell? (ad.add (j * 1 + 0)) = _
    rw [Nat.mul_one, Nat.add_zero]
    exact hc j x hx
  | i + 1, hu => simp at hu

section
variable {H : Type} {enc : TypeId × Value → H} {P : Program} {w : World} {base : Nat} {spare : Nat → Bool} {held : Bool}

/-- A cell that reads at a slice of whole numbers. -/
theorem read_ints {t e : TypeId} {k : IntKind} {fuel : Nat} {v : Value} {y : DataW H × List MemPlace} (ht : P.underlying t = some (.slice e)) (he : P.underlying e = some (.int k)) (hc : P.cellsOf e = 1)
    (hf : DataW.trod enc P w base spare held fuel t [v] = some y) :
    ∃ (A : Option Addr) (c : Nat) (l : List Int), v = .slice A l.length c ∧ l.length ≤ c ∧ (∀ x ∈ l, (Lit.int k x).wf = true) ∧ (Kd.int k).C w A l.length l := by
  rcases open_ints ht he hc hf with ⟨hcs, _⟩ | ⟨a, len, cap, zs, hcs, _, hl, hm, hz, _, hcell, hwf⟩
  · obtain rfl : v = .slice none 0 0 := by simpa using hcs
    exact ⟨none, 0, [], rfl, Nat.le_refl _, fun x hx => by simp at hx, rfl, by simp, fun h => absurd h (by simp)⟩
  · obtain rfl : v = .slice (some a) len cap := by simpa using hcs
    have hlz : len ≤ zs.length := by rw [hz]; split <;> omega
    have hlen : (zs.take len).length = len := by rw [List.length_take]; omega
    refine ⟨some a, cap, zs.take len, by rw [hlen], by rw [hlen]; exact hl, fun x hx => hwf x (List.mem_of_mem_take hx), ?_⟩
    refine C_scalar (by rw [hlen]; unfold maxLen at hm; omega) (fun hp => ⟨a, rfl, fun j x hj => ?_⟩)
    have hj' : j < len := by have := (List.getElem?_eq_some_iff.1 hj).1; rw [hlen] at this; exact this
    rw [hcell j (by omega)]
    rw [List.getElem?_take_of_lt hj'] at hj
    rw [List.getD_eq_getElem?_getD, hj]; rfl

/-- A cell that reads at a slice of strings. -/
theorem read_strs {t e : TypeId} {fuel : Nat} {v : Value} {y : DataW H × List MemPlace} (ht : P.underlying t = some (.slice e)) (he : P.underlying e = some .string) (hc : P.cellsOf e = 1)
    (hf : DataW.trod enc P w base spare held fuel t [v] = some y) :
    ∃ (A : Option Addr) (c : Nat) (l : List ByteArray), v = .slice A l.length c ∧ l.length ≤ c ∧ (∀ s ∈ l, s.size ≤ 9223372036854775807) ∧ Kd.string.C w A l.length l := by
  rcases open_strings ht he hc hf with ⟨hcs, _⟩ | ⟨a, len, cap, zs, hcs, _, hl, hm, hz, _, hcell, hwf⟩
  · obtain rfl : v = .slice none 0 0 := by simpa using hcs
    exact ⟨none, 0, [], rfl, Nat.le_refl _, fun x hx => by simp at hx, rfl, by simp, fun h => absurd h (by simp)⟩
  · obtain rfl : v = .slice (some a) len cap := by simpa using hcs
    have hlz : len ≤ zs.length := by rw [hz]; split <;> omega
    have hlen : (zs.take len).length = len := by rw [List.length_take]; omega
    refine ⟨some a, cap, zs.take len, by rw [hlen], by rw [hlen]; exact hl, fun x hx => by have := hwf x (List.mem_of_mem_take hx); unfold maxLen at this; omega, ?_⟩
    refine C_scalar (by rw [hlen]; unfold maxLen at hm; omega) (fun hp => ⟨a, rfl, fun j x hj => ?_⟩)
    have hj' : j < len := by have := (List.getElem?_eq_some_iff.1 hj).1; rw [hlen] at this; exact this
    rw [hcell j (by omega)]
    rw [List.getElem?_take_of_lt hj'] at hj
    rw [List.getD_eq_getElem?_getD, hj]; rfl

theorem read_int {t : TypeId} {k : IntKind} {fuel : Nat} {v : Value} {y : DataW H × List MemPlace} (ht : P.underlying t = some (.int k))
    (hf : DataW.trod enc P w base spare held fuel t [v] = some y) : ∃ n : Int, v = .int k n ∧ (Lit.int k n).wf = true := by
  obtain ⟨n, e1, _, h⟩ := DataW.trod_int ht hf
  exact ⟨n, by simpa using e1, h⟩
end

/-- The cells of a datum that holds numbers alone, an array's elements being numbers or structs of numbers. -/
def litsOf : DataW Unit → List Value
  | .lit (.int k n) => [.int k n]
  | .agg l => l.flatMap fun
    | .lit (.int k n) => [.int k n]
    | .agg l2 => l2.flatMap fun
      | .lit (.int k n) => [.int k n]
      | _ => []
    | _ => []
  | _ => []
end Go.Proofs.YtjnkfnabbekinaaDoor

/- FnExactDoesOpenAllCardSaid: the law 'FnExactDoesOpenAll' answers true for every input, and leaves its arguments as they were. The row and its tied card, over the walk of its calls and the pure statement. -/
namespace Go.Proofs.YtjnkfnabbekinaaDoor.fnExactDoesOpenAll
open Go.ChangeShapes Go.WideShapes Go.ChangeAt Go.RowKit Go.Proofs.YtjnkfnabbekinaaDoor.P Go.Proofs.YtjnkfnabbekinaaDoorW.PrintWords
open Go.ChangeMaps (open_string shut_string)
set_option linter.unusedVariables false
theorem own : ownKnob Tryd.prog.godebug = none := by kernel_rfl
/-- What the row lists of package-level variables. -/
noncomputable def laidList : List (String × DataW Unit) := [("unicode/utf8.acceptRanges", Rows.laid_unicode_utf8_acceptRanges), ("unicode/utf8.first", Rows.laid_unicode_utf8_first)]
/-- A world that meets it: the settled one, the listed variables laid. -/
noncomputable def laidWorld (os : Os) : World :=
  let w0 := World.holding Tryd.prog os ⟨#[], #[], []⟩
  { w0 with heap := ((w0.heap.modify 2 fun o => match o with | .cells _ t frozen => .cells (litsOf Rows.laid_unicode_utf8_acceptRanges).toArray t frozen | o => o).modify 1 fun o => match o with | .cells _ t frozen => .cells (litsOf Rows.laid_unicode_utf8_first).toArray t frozen | o => o) }
theorem laidWorld_met (os : Os) (args : Array Value) : laidMetH Tryd.prog laidList ((laidWorld os).forCall (fun _ _ => 0) ⟨#[], args, []⟩).memory :=
  laidMetH_of_parts3 (fuel := 8) (laidMet_of_run' 8 (by kernel_rfl) (by kernel_rfl)) (by kernel_rfl) (by kernel_rfl)
set_option maxRecDepth 100000 in
theorem core (H : Type) (enc : TypeId × Value → H) (W : World) (base : Nat) (args : Array Value) (ds gs : List (DataW H)) (before : List MemPlace)
    (hval0 : ∀ (j : Nat) t v, Tryd.f13.params[j]? = some t → args[j]? = some v → Value.okWide Tryd.prog W .any base t v) (hW : DataW.Whole enc Tryd.prog Tryd.f13.params.toList Rows.fnExactDoesOpenAllSpec.vars false W args.toList ds gs before) (hshp : W.ShapedOpen Tryd.prog) :
    Calls Tryd.prog 13 args W fun e W' => ∃ v, e = .returned v ∧ Rows.fnExactDoesOpenAllSpec.post enc Tryd.prog Tryd.f13 false true false false W args v W' := by
  have hval : ∀ (j : Nat) t v, Tryd.f13.params[j]? = some t → args[j]? = some v → Value.okWide Tryd.prog W .any base t v := hval0
  have hW' := hW
  obtain ⟨p, q, hA0, hV, rfl, hfz, hnd⟩ := hW
  have hA : DataW.TrodAll enc Tryd.prog W 0 (fun _ => true) true Tryd.f13.params.toList args.toList ds p := hA0
  rw [Tryd.params13] at hA hval
  obtain ⟨v0, vs0, d0, ds0, p0, q0, hargs, rfl, rfl, h0, r0⟩ := trodAll_cons hA
  obtain ⟨v1, vs1, d1, ds1, p1, q1, rfl, rfl, rfl, h1, r1⟩ := trodAll_cons r0
  obtain ⟨v2, vs2, d2, ds2, p2, q2, rfl, rfl, rfl, h2, r2⟩ := trodAll_cons r1
  obtain ⟨rfl, rfl, rfl⟩ := trodAll_nil r2
  obtain rfl : args = #[v0, v1, v2] := by cases args; simp_all
  obtain ⟨rfl, rfl⟩ := trodVars_none hV
  obtain ⟨a0, rfl, rfl, rfl, y0⟩ := open_string Tryd.underlying9 (hval 0 9 v0 rfl rfl) h0
  have z0 : a0.size ≤ 9223372036854775807 := by unfold maxLen at y0; omega
  obtain ⟨a1, rfl, rfl, rfl, w1⟩ := open_int Tryd.underlying3 (hval 1 3 v1 rfl rfl) h1
  obtain ⟨a2, rfl, rfl, rfl, w2⟩ := open_int Tryd.underlying3 (hval 2 3 v2 rfl rfl) h2
  clear hA0 hval0
  simp only [List.append_nil] at hW'
  obtain ⟨k, hk⟩ := pure_FnExactDoesOpenAll a0 a1 a2 z0 w1 w2
  refine (laws_FnExactDoesOpenAll.calls k a0 a1 a2 true W  (cell_of_shapedOpen_int (P := Tryd.prog) (g := 0) (t := 3) (zero := #[.int .i64 0]) hshp (of_decide_eq_true (by kernel_rfl)) (by kernel_rfl) rfl (by kernel_rfl) (by kernel_rfl) Tryd.underlying3) hk).mono fun e W' ⟨he, bel0⟩ => ?_
  have bel : Below W.heap.size W W' := bel0
  subst he
  exact ⟨_, rfl, _, _, _, [], _, [], hW', trodAll_mk1 (shut_bool Tryd.underlying4 _), (trodAll_cons_mk (shut_string Tryd.underlying9 y0) (trodAll_cons_mk (shut_int Tryd.underlying3 w1) (trodAll_cons_mk (shut_int Tryd.underlying3 w2) trodAll_mk0))), rfl, bel.frame _, fun h => by cases h⟩
set_option maxRecDepth 100000 in
theorem lifted (os : Os) (started : os.Started) (H : Type) (enc : TypeId × Value → H) :
    ReturnsInHanded {} Tryd.checked os 13 .any (fun w args => (Rows.fnExactDoesOpenAllSpec.pre enc Tryd.prog Tryd.f13 [] false w args ∧ laidMetH Tryd.prog laidList w) ∧ sizedMet enc Tryd.prog Tryd.f13 (OpenSpec.ofChange Rows.fnExactDoesOpenAllSpec) false w args)
      (Rows.fnExactDoesOpenAllSpec.post enc Tryd.prog Tryd.f13 false true false false) := by
  refine returnsInHanded_of_calls (C := Tryd.checked) own started (by kernel_rfl)
    (ChangeSpec.witness_at (enc := enc) (C := Tryd.checked) (os := os) (X := fun w _ => laidMetH Tryd.prog laidList w) false (laidWorld os) #[.string ByteArray.empty, .int .i64 0, .int .i64 0] 8 rfl (by kernel_rfl) (by kernel_rfl) (by kernel_rfl) (by kernel_rfl) (by kernel_rfl) (laidWorld_met os _)) ?_
  intro w tape i _ hsh _ hok hpre _
  obtain ⟨_, _, _, fn', hfn', _, _, _, _, hval⟩ := hok
  obtain rfl : fn' = Tryd.f13 := Option.some.inj (hfn'.symm.trans Tryd.func13)
  obtain ⟨⟨⟨ds, gs, before, hw, _⟩, _⟩, _⟩ := hpre
  refine (core H enc (w.forCall tape i) w.heap.size i.args ds gs before hval (DataW.Whole.of_heap (w' := w.forCall tape i) (by rfl) hw) hsh).mono fun e W' ⟨v, he, hp⟩ => ?_
  subst he
  exact ChangeSpec.post_blind hp
theorem over : Rows.fnExactDoesOpenAllRow.holds Tryd.pinned (OpenSpec.ofChange Rows.fnExactDoesOpenAllSpec) :=
  OpenClaim.holds_of_wide 13 Tryd.f13 rfl rfl rfl rfl rfl rfl rfl ⟨rfl, rfl, rfl, rfl, rfl⟩ rfl rfl rfl rfl rfl (by kernel_rfl) Tryd.func13 (by kernel_rfl)
    (of_decide_eq_true (by kernel_rfl)) (by unfold Func.isWrapper; first | (rw [if_pos (by decide +kernel)]; kernel_rfl) | (rw [if_neg (by decide +kernel)]; exact ⟨rfl, rfl⟩))
    (fun os started H enc _ => lifted os started H enc)
theorem proved : Rows.FnExactDoesOpenAllSaid := over
theorem card : Rows.FnExactDoesOpenAllCardSaid :=
  Claim7.holds_tied_plain_at .later [] [.data, .pinned] true (true, "bbb317806ece47bd1f409602de2f7cd200ed85fc911e9c2255e6388d2bf5fb3c") false
    proved (fun _ h => by cases h) (by kernel_rfl) (fun _ h => by cases h) fnExactDoesOpenAll_row_tie rfl ⟨rfl, rfl⟩ (by kernel_rfl) rfl
    (fun f fn hf hfn => by
      obtain rfl : f = 13 := Option.some.inj ((show Tryd.prog.funcNamed "loop.example/g01350/laws.FnExactDoesOpenAll" = some 13 by kernel_rfl).symm.trans hf) |>.symm
      obtain rfl : fn = Tryd.f13 := (Option.some.inj (Tryd.func13.symm.trans hfn)).symm
      exact ⟨by kernel_rfl, fun j t ht => by
        rw [Tryd.params13] at ht
        have hm : t ∈ #[9, 3, 3] := Array.mem_of_getElem? ht
        have hm : t ∈ [9, 3, 3] := by simpa using hm
        have hall : ([9, 3, 3].all fun u => !Tryd.prog.wantsStandIn u) = true := by kernel_rfl
        exact (show Tryd.prog.wantsStandIn t = false by simpa using List.all_eq_true.1 hall t hm)⟩)
    (by kernel_rfl)
#print axioms card
end Go.Proofs.YtjnkfnabbekinaaDoor.fnExactDoesOpenAll
namespace Go.Proofs.YtjnkfnabbekinaaDoor
theorem fnExactDoesOpenAll_holds : Rows.FnExactDoesOpenAllCardSaid := fnExactDoesOpenAll.card
end Go.Proofs.YtjnkfnabbekinaaDoor

