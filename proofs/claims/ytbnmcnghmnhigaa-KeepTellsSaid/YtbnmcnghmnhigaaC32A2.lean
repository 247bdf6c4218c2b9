import Derived.Test.YtbnmcnghmnhigaaC32A1
import Derived.Maps.Own
import Derived.Maps.OwnOps
import Derived.Maps.OwnSet
import Derived.Maps.Views
import Derived.Deep.RegionWith
import Derived.Lib.Hide
import Derived.WalkKit
import Derived.Shelf.Small.Bits
import Derived.Shelf.Small.Strs
import Derived.Shelf.Strconv.Itoa0
import Derived.Shelf.Sort.Plain
import Derived.Shelf.Slices.Turned
import Derived.Shelf.Slices.Equal
import Derived.Shelf.Slices.In.SortNone
import Derived.Shelf.Slices.Empties2
import Derived.Test.YtbnmcnghmnhigaaProg
import Derived.Sort.OwnSorted
section
namespace Go.Proofs.Ytbnmcnghmnhigaa.X
open Go.RowKit Go.Proofs.YtbnmcnghmnhigaaW.PrintWords Go.Proofs.YtbnmcnghmnhigaaW.PrintLast Go.Proofs.YtbnmcnghmnhigaaW.PrintMore
attribute [local go_sem] max2_int min2_int max_two min_two max_three min_three max_four min_four
set_option linter.unusedVariables false
set_option linter.unusedSimpArgs false
def sealringref32_Content.f (k : Nat) (a0 : Int) (a1 : ByteArray) : Option (List ByteArray × Bool) := (sealringref26_Of.f a0).bind fun bt1068 => (if bt1068.2 = true then (if a1.toList = ([109, 46, 114, 111, 111, 109, 46, 109, 101, 109, 98, 101, 114] : List UInt8) then (if 5 < (bt1068.1.length : Int) then (if 6 < (bt1068.1.length : Int) then ((sealringref32_some.f k (([(⟨#[106, 111, 105, 110, 95, 97, 117, 116, 104, 111, 114, 105, 115, 101, 100, 95, 118, 105, 97, 95, 117, 115, 101, 114, 115, 95, 115, 101, 114, 118, 101, 114]⟩ : ByteArray), (⟨#[109, 101, 109, 98, 101, 114, 115, 104, 105, 112]⟩ : ByteArray), (⟨#[116, 104, 105, 114, 100, 95, 112, 97, 114, 116, 121, 95, 105, 110, 118, 105, 116, 101]⟩ : ByteArray)] : List ByteArray)) (([rdOf false bt1068.1 5, true, rdOf false bt1068.1 6] : List Bool))).bind fun t1080 => (some (t1080, false))) else (none)) else (none)) else (if a1.toList = ([109, 46, 114, 111, 111, 109, 46, 99, 114, 101, 97, 116, 101] : List UInt8) then (if 6 < (bt1068.1.length : Int) then (if rdOf false bt1068.1 6 = true then (some (([] : List ByteArray), true)) else (some ((([(⟨#[99, 114, 101, 97, 116, 111, 114]⟩ : ByteArray)] : List ByteArray)), false))) else (none)) else (if a1.toList = ([109, 46, 114, 111, 111, 109, 46, 106, 111, 105, 110, 95, 114, 117, 108, 101, 115] : List UInt8) then (if 4 < (bt1068.1.length : Int) then ((sealringref32_some.f k (([(⟨#[97, 108, 108, 111, 119]⟩ : ByteArray), (⟨#[106, 111, 105, 110, 95, 114, 117, 108, 101]⟩ : ByteArray)] : List ByteArray)) (([rdOf false bt1068.1 4, true] : List Bool))).bind fun t1094 => (some (t1094, false))) else (none)) else (if a1.toList = ([109, 46, 114, 111, 111, 109, 46, 112, 111, 119, 101, 114, 95, 108, 101, 118, 101, 108, 115] : List UInt8) then (if 6 < (bt1068.1.length : Int) then ((sealringref32_some.f k (([(⟨#[98, 97, 110]⟩ : ByteArray), (⟨#[101, 118, 101, 110, 116, 115]⟩ : ByteArray), (⟨#[101, 118, 101, 110, 116, 115, 95, 100, 101, 102, 97, 117, 108, 116]⟩ : ByteArray), (⟨#[105, 110, 118, 105, 116, 101]⟩ : ByteArray), (⟨#[107, 105, 99, 107]⟩ : ByteArray), (⟨#[114, 101, 100, 97, 99, 116]⟩ : ByteArray), (⟨#[115, 116, 97, 116, 101, 95, 100, 101, 102, 97, 117, 108, 116]⟩ : ByteArray), (⟨#[117, 115, 101, 114, 115]⟩ : ByteArray), (⟨#[117, 115, 101, 114, 115, 95, 100, 101, 102, 97, 117, 108, 116]⟩ : ByteArray)] : List ByteArray)) (([true, true, true, rdOf false bt1068.1 6, true, true, true, true, true] : List Bool))).bind fun t1104 => (some (t1104, false))) else (none)) else (if a1.toList = ([109, 46, 114, 111, 111, 109, 46, 97, 108, 105, 97, 115, 101, 115] : List UInt8) then (if 3 < (bt1068.1.length : Int) then ((sealringref32_some.f k (([(⟨#[97, 108, 105, 97, 115, 101, 115]⟩ : ByteArray)] : List ByteArray)) (([rdOf false bt1068.1 3] : List Bool))).bind fun t1114 => (some (t1114, false))) else (none)) else (if a1.toList = ([109, 46, 114, 111, 111, 109, 46, 104, 105, 115, 116, 111, 114, 121, 95, 118, 105, 115, 105, 98, 105, 108, 105, 116, 121] : List UInt8) then (some ((([(⟨#[104, 105, 115, 116, 111, 114, 121, 95, 118, 105, 115, 105, 98, 105, 108, 105, 116, 121]⟩ : ByteArray)] : List ByteArray)), false)) else (if a1.toList = ([109, 46, 114, 111, 111, 109, 46, 114, 101, 100, 97, 99, 116, 105, 111, 110] : List UInt8) then (if 6 < (bt1068.1.length : Int) then ((sealringref32_some.f k (([(⟨#[114, 101, 100, 97, 99, 116, 115]⟩ : ByteArray)] : List ByteArray)) (([rdOf false bt1068.1 6] : List Bool))).bind fun t1127 => (some (t1127, false))) else (none)) else (some (([] : List ByteArray), false))))))))) else (some (([] : List ByteArray), false)))
theorem sealringref32_Content.mono : ∀ a0 a1 k, LeO (sealringref32_Content.f k a0 a1) (sealringref32_Content.f (k + 1) a0 a1) := by
  intro a0 a1 k
  unfold sealringref32_Content.f
  repeat' first
      | (with_reducible exact sealringref32_some.mono _ _ _)
      | (with_reducible exact LeO.refl _)
      | (with_reducible exact LeO.none _)
      | (with_reducible refine LeO.ite ?_ ?_)
      | (with_reducible refine LeO.bind ?_ (fun _ => ?_))
      | exact sealringref32_some.mono _ _ _
      | exact LeO.none _
      | refine LeO.ite ?_ ?_
      | refine LeO.bind ?_ (fun _ => ?_)
def sealringref32_Content.T6 : Bool × List (List Nat × List Nat) := (true, [([], []), ([], []), ([1], [1]), ([2], [2]), ([], []), ([4], [4]), ([5], [5]), ([3, 6], [3, 6]), ([0, 7], [0, 7]), ([8, 8, 0, 1, 2, 3, 4, 5, 6, 7, 8], [8]), ([9, 0, 1, 2, 3, 4, 5, 6, 7, 8, 9], [])])
def sealringref32_Content.B6 : List Nat := [0, 0, 2, 6, 0, 16, 48, 126, 255, 511, 1023]
theorem sealringref32_Content.tab6 : rtab .any (opsOf Try.f56 6) = sealringref32_Content.T6 := by kernel_rfl
theorem sealringref32_Content.bits6 : waitsOk sealringref32_Content.T6.2 sealringref32_Content.B6 = true := by kernel_rfl
set_option maxHeartbeats 8000000 in
set_option maxRecDepth 100000 in
theorem sealringref32_Content.calls (k : Nat) (a0 : Int) (a1 : ByteArray) (r1 : List ByteArray) (r2 : Bool) (w : World) (h : sealringref32_Content.f k a0 a1 = some (r1, r2)) :
    Calls Try.prog 56 #[.int .i64 a0, .string a1] w fun e w' => ∃ v0_ : Value, e = .returned (.tuple #[v0_, .bool r2]) ∧ Kd.R Kd.string 9 w' w.heap.size (fun _ => True) v0_ r1 ∧ Below w.heap.size w w' := by
  have HB := Aside0.mk (Below.refl w.heap.size w)
  have H : ((sealringref26_Of.f a0).bind fun bt1068 => (if bt1068.2 = true then (if a1.toList = ([109, 46, 114, 111, 111, 109, 46, 109, 101, 109, 98, 101, 114] : List UInt8) then (if 5 < (bt1068.1.length : Int) then (if 6 < (bt1068.1.length : Int) then ((sealringref32_some.f k (([(⟨#[106, 111, 105, 110, 95, 97, 117, 116, 104, 111, 114, 105, 115, 101, 100, 95, 118, 105, 97, 95, 117, 115, 101, 114, 115, 95, 115, 101, 114, 118, 101, 114]⟩ : ByteArray), (⟨#[109, 101, 109, 98, 101, 114, 115, 104, 105, 112]⟩ : ByteArray), (⟨#[116, 104, 105, 114, 100, 95, 112, 97, 114, 116, 121, 95, 105, 110, 118, 105, 116, 101]⟩ : ByteArray)] : List ByteArray)) (([rdOf false bt1068.1 5, true, rdOf false bt1068.1 6] : List Bool))).bind fun t1080 => (some (t1080, false))) else (none)) else (none)) else (if a1.toList = ([109, 46, 114, 111, 111, 109, 46, 99, 114, 101, 97, 116, 101] : List UInt8) then (if 6 < (bt1068.1.length : Int) then (if rdOf false bt1068.1 6 = true then (some (([] : List ByteArray), true)) else (some ((([(⟨#[99, 114, 101, 97, 116, 111, 114]⟩ : ByteArray)] : List ByteArray)), false))) else (none)) else (if a1.toList = ([109, 46, 114, 111, 111, 109, 46, 106, 111, 105, 110, 95, 114, 117, 108, 101, 115] : List UInt8) then (if 4 < (bt1068.1.length : Int) then ((sealringref32_some.f k (([(⟨#[97, 108, 108, 111, 119]⟩ : ByteArray), (⟨#[106, 111, 105, 110, 95, 114, 117, 108, 101]⟩ : ByteArray)] : List ByteArray)) (([rdOf false bt1068.1 4, true] : List Bool))).bind fun t1094 => (some (t1094, false))) else (none)) else (if a1.toList = ([109, 46, 114, 111, 111, 109, 46, 112, 111, 119, 101, 114, 95, 108, 101, 118, 101, 108, 115] : List UInt8) then (if 6 < (bt1068.1.length : Int) then ((sealringref32_some.f k (([(⟨#[98, 97, 110]⟩ : ByteArray), (⟨#[101, 118, 101, 110, 116, 115]⟩ : ByteArray), (⟨#[101, 118, 101, 110, 116, 115, 95, 100, 101, 102, 97, 117, 108, 116]⟩ : ByteArray), (⟨#[105, 110, 118, 105, 116, 101]⟩ : ByteArray), (⟨#[107, 105, 99, 107]⟩ : ByteArray), (⟨#[114, 101, 100, 97, 99, 116]⟩ : ByteArray), (⟨#[115, 116, 97, 116, 101, 95, 100, 101, 102, 97, 117, 108, 116]⟩ : ByteArray), (⟨#[117, 115, 101, 114, 115]⟩ : ByteArray), (⟨#[117, 115, 101, 114, 115, 95, 100, 101, 102, 97, 117, 108, 116]⟩ : ByteArray)] : List ByteArray)) (([true, true, true, rdOf false bt1068.1 6, true, true, true, true, true] : List Bool))).bind fun t1104 => (some (t1104, false))) else (none)) else (if a1.toList = ([109, 46, 114, 111, 111, 109, 46, 97, 108, 105, 97, 115, 101, 115] : List UInt8) then (if 3 < (bt1068.1.length : Int) then ((sealringref32_some.f k (([(⟨#[97, 108, 105, 97, 115, 101, 115]⟩ : ByteArray)] : List ByteArray)) (([rdOf false bt1068.1 3] : List Bool))).bind fun t1114 => (some (t1114, false))) else (none)) else (if a1.toList = ([109, 46, 114, 111, 111, 109, 46, 104, 105, 115, 116, 111, 114, 121, 95, 118, 105, 115, 105, 98, 105, 108, 105, 116, 121] : List UInt8) then (some ((([(⟨#[104, 105, 115, 116, 111, 114, 121, 95, 118, 105, 115, 105, 98, 105, 108, 105, 116, 121]⟩ : ByteArray)] : List ByteArray)), false)) else (if a1.toList = ([109, 46, 114, 111, 111, 109, 46, 114, 101, 100, 97, 99, 116, 105, 111, 110] : List UInt8) then (if 6 < (bt1068.1.length : Int) then ((sealringref32_some.f k (([(⟨#[114, 101, 100, 97, 99, 116, 115]⟩ : ByteArray)] : List ByteArray)) (([rdOf false bt1068.1 6] : List Bool))).bind fun t1127 => (some (t1127, false))) else (none)) else (some (([] : List ByteArray), false))))))))) else (some (([] : List ByteArray), false)))) = some (r1, r2) := h
  clear h
  replace H := Option.bind_eq_some_iff.mp H
  obtain ⟨⟨t1068, t1069⟩, A30, H⟩ := H
  replace H : (if t1069 = true then (if a1.toList = ([109, 46, 114, 111, 111, 109, 46, 109, 101, 109, 98, 101, 114] : List UInt8) then (if 5 < (t1068.length : Int) then (if 6 < (t1068.length : Int) then ((sealringref32_some.f k (([(⟨#[106, 111, 105, 110, 95, 97, 117, 116, 104, 111, 114, 105, 115, 101, 100, 95, 118, 105, 97, 95, 117, 115, 101, 114, 115, 95, 115, 101, 114, 118, 101, 114]⟩ : ByteArray), (⟨#[109, 101, 109, 98, 101, 114, 115, 104, 105, 112]⟩ : ByteArray), (⟨#[116, 104, 105, 114, 100, 95, 112, 97, 114, 116, 121, 95, 105, 110, 118, 105, 116, 101]⟩ : ByteArray)] : List ByteArray)) (([rdOf false t1068 5, true, rdOf false t1068 6] : List Bool))).bind fun t1080 => (some (t1080, false))) else (none)) else (none)) else (if a1.toList = ([109, 46, 114, 111, 111, 109, 46, 99, 114, 101, 97, 116, 101] : List UInt8) then (if 6 < (t1068.length : Int) then (if rdOf false t1068 6 = true then (some (([] : List ByteArray), true)) else (some ((([(⟨#[99, 114, 101, 97, 116, 111, 114]⟩ : ByteArray)] : List ByteArray)), false))) else (none)) else (if a1.toList = ([109, 46, 114, 111, 111, 109, 46, 106, 111, 105, 110, 95, 114, 117, 108, 101, 115] : List UInt8) then (if 4 < (t1068.length : Int) then ((sealringref32_some.f k (([(⟨#[97, 108, 108, 111, 119]⟩ : ByteArray), (⟨#[106, 111, 105, 110, 95, 114, 117, 108, 101]⟩ : ByteArray)] : List ByteArray)) (([rdOf false t1068 4, true] : List Bool))).bind fun t1094 => (some (t1094, false))) else (none)) else (if a1.toList = ([109, 46, 114, 111, 111, 109, 46, 112, 111, 119, 101, 114, 95, 108, 101, 118, 101, 108, 115] : List UInt8) then (if 6 < (t1068.length : Int) then ((sealringref32_some.f k (([(⟨#[98, 97, 110]⟩ : ByteArray), (⟨#[101, 118, 101, 110, 116, 115]⟩ : ByteArray), (⟨#[101, 118, 101, 110, 116, 115, 95, 100, 101, 102, 97, 117, 108, 116]⟩ : ByteArray), (⟨#[105, 110, 118, 105, 116, 101]⟩ : ByteArray), (⟨#[107, 105, 99, 107]⟩ : ByteArray), (⟨#[114, 101, 100, 97, 99, 116]⟩ : ByteArray), (⟨#[115, 116, 97, 116, 101, 95, 100, 101, 102, 97, 117, 108, 116]⟩ : ByteArray), (⟨#[117, 115, 101, 114, 115]⟩ : ByteArray), (⟨#[117, 115, 101, 114, 115, 95, 100, 101, 102, 97, 117, 108, 116]⟩ : ByteArray)] : List ByteArray)) (([true, true, true, rdOf false t1068 6, true, true, true, true, true] : List Bool))).bind fun t1104 => (some (t1104, false))) else (none)) else (if a1.toList = ([109, 46, 114, 111, 111, 109, 46, 97, 108, 105, 97, 115, 101, 115] : List UInt8) then (if 3 < (t1068.length : Int) then ((sealringref32_some.f k (([(⟨#[97, 108, 105, 97, 115, 101, 115]⟩ : ByteArray)] : List ByteArray)) (([rdOf false t1068 3] : List Bool))).bind fun t1114 => (some (t1114, false))) else (none)) else (if a1.toList = ([109, 46, 114, 111, 111, 109, 46, 104, 105, 115, 116, 111, 114, 121, 95, 118, 105, 115, 105, 98, 105, 108, 105, 116, 121] : List UInt8) then (some ((([(⟨#[104, 105, 115, 116, 111, 114, 121, 95, 118, 105, 115, 105, 98, 105, 108, 105, 116, 121]⟩ : ByteArray)] : List ByteArray)), false)) else (if a1.toList = ([109, 46, 114, 111, 111, 109, 46, 114, 101, 100, 97, 99, 116, 105, 111, 110] : List UInt8) then (if 6 < (t1068.length : Int) then ((sealringref32_some.f k (([(⟨#[114, 101, 100, 97, 99, 116, 115]⟩ : ByteArray)] : List ByteArray)) (([rdOf false t1068 6] : List Bool))).bind fun t1127 => (some (t1127, false))) else (none)) else (some (([] : List ByteArray), false))))))))) else (some (([] : List ByteArray), false))) = some (r1, r2) := H
  have A3 := Aside0.mk A30
  clear A30
  by_cases c4 : t1069 = true
  · subst c4
    have H1 : (if a1.toList = ([109, 46, 114, 111, 111, 109, 46, 109, 101, 109, 98, 101, 114] : List UInt8) then (if 5 < (t1068.length : Int) then (if 6 < (t1068.length : Int) then ((sealringref32_some.f k (([(⟨#[106, 111, 105, 110, 95, 97, 117, 116, 104, 111, 114, 105, 115, 101, 100, 95, 118, 105, 97, 95, 117, 115, 101, 114, 115, 95, 115, 101, 114, 118, 101, 114]⟩ : ByteArray), (⟨#[109, 101, 109, 98, 101, 114, 115, 104, 105, 112]⟩ : ByteArray), (⟨#[116, 104, 105, 114, 100, 95, 112, 97, 114, 116, 121, 95, 105, 110, 118, 105, 116, 101]⟩ : ByteArray)] : List ByteArray)) (([rdOf false t1068 5, true, rdOf false t1068 6] : List Bool))).bind fun t1080 => (some (t1080, false))) else (none)) else (none)) else (if a1.toList = ([109, 46, 114, 111, 111, 109, 46, 99, 114, 101, 97, 116, 101] : List UInt8) then (if 6 < (t1068.length : Int) then (if rdOf false t1068 6 = true then (some (([] : List ByteArray), true)) else (some ((([(⟨#[99, 114, 101, 97, 116, 111, 114]⟩ : ByteArray)] : List ByteArray)), false))) else (none)) else (if a1.toList = ([109, 46, 114, 111, 111, 109, 46, 106, 111, 105, 110, 95, 114, 117, 108, 101, 115] : List UInt8) then (if 4 < (t1068.length : Int) then ((sealringref32_some.f k (([(⟨#[97, 108, 108, 111, 119]⟩ : ByteArray), (⟨#[106, 111, 105, 110, 95, 114, 117, 108, 101]⟩ : ByteArray)] : List ByteArray)) (([rdOf false t1068 4, true] : List Bool))).bind fun t1094 => (some (t1094, false))) else (none)) else (if a1.toList = ([109, 46, 114, 111, 111, 109, 46, 112, 111, 119, 101, 114, 95, 108, 101, 118, 101, 108, 115] : List UInt8) then (if 6 < (t1068.length : Int) then ((sealringref32_some.f k (([(⟨#[98, 97, 110]⟩ : ByteArray), (⟨#[101, 118, 101, 110, 116, 115]⟩ : ByteArray), (⟨#[101, 118, 101, 110, 116, 115, 95, 100, 101, 102, 97, 117, 108, 116]⟩ : ByteArray), (⟨#[105, 110, 118, 105, 116, 101]⟩ : ByteArray), (⟨#[107, 105, 99, 107]⟩ : ByteArray), (⟨#[114, 101, 100, 97, 99, 116]⟩ : ByteArray), (⟨#[115, 116, 97, 116, 101, 95, 100, 101, 102, 97, 117, 108, 116]⟩ : ByteArray), (⟨#[117, 115, 101, 114, 115]⟩ : ByteArray), (⟨#[117, 115, 101, 114, 115, 95, 100, 101, 102, 97, 117, 108, 116]⟩ : ByteArray)] : List ByteArray)) (([true, true, true, rdOf false t1068 6, true, true, true, true, true] : List Bool))).bind fun t1104 => (some (t1104, false))) else (none)) else (if a1.toList = ([109, 46, 114, 111, 111, 109, 46, 97, 108, 105, 97, 115, 101, 115] : List UInt8) then (if 3 < (t1068.length : Int) then ((sealringref32_some.f k (([(⟨#[97, 108, 105, 97, 115, 101, 115]⟩ : ByteArray)] : List ByteArray)) (([rdOf false t1068 3] : List Bool))).bind fun t1114 => (some (t1114, false))) else (none)) else (if a1.toList = ([109, 46, 114, 111, 111, 109, 46, 104, 105, 115, 116, 111, 114, 121, 95, 118, 105, 115, 105, 98, 105, 108, 105, 116, 121] : List UInt8) then (some ((([(⟨#[104, 105, 115, 116, 111, 114, 121, 95, 118, 105, 115, 105, 98, 105, 108, 105, 116, 121]⟩ : ByteArray)] : List ByteArray)), false)) else (if a1.toList = ([109, 46, 114, 111, 111, 109, 46, 114, 101, 100, 97, 99, 116, 105, 111, 110] : List UInt8) then (if 6 < (t1068.length : Int) then ((sealringref32_some.f k (([(⟨#[114, 101, 100, 97, 99, 116, 115]⟩ : ByteArray)] : List ByteArray)) (([rdOf false t1068 6] : List Bool))).bind fun t1127 => (some (t1127, false))) else (none)) else (some (([] : List ByteArray), false))))))))) = some (r1, r2) := by rw [if_pos rfl] at H; exact H
    clear H
    have H := H1
    clear H1
    by_cases c5 : a1.toList = ([109, 46, 114, 111, 111, 109, 46, 109, 101, 109, 98, 101, 114] : List UInt8)
    · rw [if_pos c5] at H
      have c5b0 : (a1.toList == ([109, 46, 114, 111, 111, 109, 46, 109, 101, 109, 98, 101, 114] : List UInt8)) = true := beq_iff_eq.mpr c5
      have c5b1 : (a1.toList != ([109, 46, 114, 111, 111, 109, 46, 109, 101, 109, 98, 101, 114] : List UInt8)) = false := bne_eq_false_iff_eq.mpr c5
      clear c5
      obtain ⟨y1072, hy1072⟩ : ∃ y_ : List ByteArray, y_ = (([(⟨#[106, 111, 105, 110, 95, 97, 117, 116, 104, 111, 114, 105, 115, 101, 100, 95, 118, 105, 97, 95, 117, 115, 101, 114, 115, 95, 115, 101, 114, 118, 101, 114]⟩ : ByteArray), (⟨#[109, 101, 109, 98, 101, 114, 115, 104, 105, 112]⟩ : ByteArray), (⟨#[116, 104, 105, 114, 100, 95, 112, 97, 114, 116, 121, 95, 105, 110, 118, 105, 116, 101]⟩ : ByteArray)] : List ByteArray)) := ⟨_, rfl⟩
      replace H : (if 5 < (t1068.length : Int) then (if 6 < (t1068.length : Int) then ((sealringref32_some.f k y1072 (([rdOf false t1068 5, true, rdOf false t1068 6] : List Bool))).bind fun t1080 => (some (t1080, false))) else (none)) else (none)) = some (r1, r2) := by first | (rw [hy1072]; with_reducible exact H) | (have H2_ := (Option.bind_some _ _).symm.trans H; rw [hy1072]; with_reducible exact H2_) | (have H2_ := (Option.bind_some _ _).symm.trans H; with_reducible exact H2_) | with_reducible exact H | (rw [hy1072]; exact H) | exact H
      have Ny1072 := Aside0.mk hy1072
      clear hy1072
      by_cases c6 : 5 < (t1068.length : Int)
      · rw [if_pos c6] at H
        have c6b0 : decide (5 < (t1068.length : Int)) = true := decide_eq_true c6
        have c6b1 : decide (5 < t1068.length) = true := decide_eq_true (by omega)
        clear c6
        by_cases c7 : 6 < (t1068.length : Int)
        · rw [if_pos c7] at H
          have c7b0 : decide (6 < (t1068.length : Int)) = true := decide_eq_true c7
          have c7b1 : decide (6 < t1068.length) = true := decide_eq_true (by omega)
          clear c7
          obtain ⟨y1077, hy1077⟩ : ∃ y_ : List Bool, y_ = (([rdOf false t1068 5, true, rdOf false t1068 6] : List Bool)) := ⟨_, rfl⟩
          replace H : ((sealringref32_some.f k y1072 y1077).bind fun t1080 => (some (t1080, false))) = some (r1, r2) := by first | (rw [hy1077]; with_reducible exact H) | (have H2_ := (Option.bind_some _ _).symm.trans H; rw [hy1077]; with_reducible exact H2_) | (have H2_ := (Option.bind_some _ _).symm.trans H; with_reducible exact H2_) | with_reducible exact H | (rw [hy1077]; exact H) | exact H
          have Ny1077 := Aside0.mk hy1077
          clear hy1077
          replace H := Option.bind_eq_some_iff.mp H
          obtain ⟨t1080, A80, H⟩ := H
          replace H : (some (t1080, false)) = some (r1, r2) := H
          have A8 := Aside0.mk A80
          clear A80
          simp only [Option.some.injEq, Prod.mk.injEq] at H
          obtain ⟨rfl, rfl⟩ := H
          go_enter Try.func56, Try.ntmps56
          try go_wp2_with (first | ((with_reducible refine gate_callee (f := 102) rfl ?_); refine goesL_ (some 10) rfl rfl Try.func102 (by kernel_rfl) rfl #[.int .i64 a0] rfl (by (try simp only [List.map_toArray, List.map_cons, List.map_nil]); first | done | rfl | (simp only [List.length_drop, List.length_take]; rfl)) ?_; (with_reducible refine (sealringref26_Of.calls a0 t1068 true _ A3.out).mono ?_); rintro e w9 ⟨v1070, rfl, ho0, hb⟩; refine ⟨_, rfl, ?_⟩; have n0_ := Aside0.mk (Kd.R_lower ho0 (below_size (by repeat (first | (with_reducible first | exact HB.out | apply below_alloc | apply pw_below_drewN | apply below_drew1) | exact HB.out)))); have n1_ := Aside0.mk (below_step (by repeat (first | (with_reducible first | exact HB.out | apply below_alloc | apply pw_below_drewN | apply below_drew1) | exact HB.out)) hb); clear HB; have HO1071 := n0_; have HB := n1_; clear n0_ n1_; (try clear hb); (try clear hb2); (try clear hk); (try clear hi); (try clear ho0)))
          have n0_ := Aside0.mk (Kd.R_drew HO1071.out)
          have n1_ := Aside0.mk (below_drew1 HB.out)
          clear HO1071
          clear HB
          have HO1071 := n0_
          have HB := n1_
          clear n0_ n1_
          obtain ⟨Ao11, co11, eo11⟩ := Kd.R_slice HO1071.out
          (first | subst eo11 | (injection eo11 with f1_ f2_ f3_; have f4_ := f1_.symm; have f5_ := f3_.symm; clear f1_ f2_ f3_; subst f4_; subst f5_))
          have p1075 : 0 ≤ (5 : Int) := (by omega)
          have q1075 : 5 < (t1068.length : Int) := of_decide_eq_true (by first | (with_reducible assumption) | assumption)
          obtain ⟨ad1075, e1075, hx1075_0⟩ := Kd.at_bool (Kd.R_reads' HO1071.out).2.2 5 p1075 q1075
          cases e1075
          (try simp only [show (5 : Int).toNat = 5 from rfl, Nat.reduceMul, Nat.reduceEqDiff, Go.Addr.add, ↓reduceIte] at hx1075_0)
          have qi1075 : (5 < t1068.length) = True := eq_true (by omega)
          (try rw [show ((5 : Int)).toNat = 5 from rfl] at hx1075_0)
          replace p1075 := eq_true p1075
          replace q1075 := eq_true q1075
          have p1076 : 0 ≤ (6 : Int) := (by omega)
          have q1076 : 6 < (t1068.length : Int) := of_decide_eq_true (by first | (with_reducible assumption) | assumption)
          obtain ⟨ad1076, e1076, hx1076_0⟩ := Kd.at_bool (Kd.R_reads' HO1071.out).2.2 6 p1076 q1076
          obtain rfl : ad1075 = ad1076 := (by injection e1076)
          (try simp only [show (6 : Int).toNat = 6 from rfl, Nat.reduceMul, Nat.reduceEqDiff, Go.Addr.add, ↓reduceIte] at hx1076_0)
          have qi1076 : (6 < t1068.length) = True := eq_true (by omega)
          (try rw [show ((6 : Int)).toNat = 6 from rfl] at hx1076_0)
          replace p1076 := eq_true p1076
          replace q1076 := eq_true q1076
          refine start_ (n := 11) (S := fun w' => True) (ds := []) #[false, false, false, false, false, false, false, false, false, false, false] (by kernel_rfl) rfl rfl trivial (fun hHeld => ?_); refine with_tabW sealringref32_Content.tab6 sealringref32_Content.bits6 (fun HT_ HW_ => ?_)
          generalize w9.drew = w10 at HO1071 HB hx1075_0 hx1076_0 hHeld ⊢
          refine pure_ (i := 1) (N := some 19) (v := ?_) (a' := ?_) #[false, true, false, false, false, false, false, false, false, false, false] rfl rfl (any_of HT_.out (by kernel_rfl)) (fun _ _ _ h => h) (Or.inl ⟨by rfl, ?_⟩) ?_ ?_
          rotate_left
          · intro w'
            go_simp
            with_reducible rfl
          rotate_left
          · simp only [Act.put, List.setIfInBounds_toArray, List.set_cons_zero, List.set_cons_succ, i64_w, i32_w]
            rfl
          refine pure_ (i := 4) (N := some 22) (v := ?_) (a' := ?_) #[false, true, false, false, true, false, false, false, false, false, false] rfl rfl (any_of HT_.out (by kernel_rfl)) (fun _ _ _ h => h) (Or.inl ⟨by rfl, ?_⟩) ?_ ?_
          rotate_left
          · intro w'
            go_simp
            with_reducible rfl
          rotate_left
          · simp only [Act.put, List.setIfInBounds_toArray, List.set_cons_zero, List.set_cons_succ, i64_w, i32_w]
            rfl
          refine inv_at [0, 2, 3, 5, 6, 7, 8, 9, 10] (fun a0_ b a w' => ∃ (v1073 : Value) (v1078 : Value) (v1081 : Value) (m9_ : Value), a = putSel a0_ b [(0, 18, v1073), (2, 20, .pointer (some (ad1075.add 5))), (3, 21, .bool (rdOf false t1068 5)), (5, 23, .pointer (some (ad1075.add 6))), (6, 24, .bool (rdOf false t1068 6)), (7, 25, v1078), (8, 26, v1081), (9, 4, m9_), (10, 5, .bool false)] ∧ (Kd.R Kd.bool 4 w' w.heap.size (fun _ => True) (.slice (some ad1075) t1068.length co11) t1068) ∧ (Below w.heap.size w w') ∧ (b 0 = true → Kd.R Kd.string 9 w' w.heap.size (fun _ => True) v1073 y1072) ∧ (b 7 = true → Kd.R Kd.bool 4 w' w.heap.size (fun k_ => some k_ ≠ (.slice (some ad1075) t1068.length co11 : Value).ownBlock) v1078 y1077) ∧ (b 8 = true → Kd.R Kd.string 9 w' w.heap.size (fun _ => True) v1081 t1080) ∧ (b 9 = true → (m9_ : Value) = v1081)) HT_.out HW_.out (by kernel_rfl) (by kernel_rfl) ?_ ?_ ?_
          · exact ⟨.bool false, .bool false, .bool false, .bool false, by simp only [putSel, Bool.false_eq_true, if_false], HO1071.out, HB.out, fun h_ => absurd h_ (by decide), fun h_ => absurd h_ (by decide), fun h_ => absurd h_ (by decide), fun h_ => absurd h_ (by decide)⟩
          · skip
            clear HB HO1071
            refine steps_cons ?_ ?_
            · rintro b a w' ⟨v1073, v1078, v1081, m9_, ha, Q_HO1071, Q_HB, Q_HO1074, Q_HO1079, Q_HO1082, Q_X9_⟩ hb_ hon hoff
              refine ⟨_, rfl, fun K hK => ?_⟩
              replace ha := Aside0.mk ha
              have HO1071 := Aside0.mk Q_HO1071
              have HB := Aside0.mk Q_HB
              refine Kd.R_lit_step Kd.string _ 9 ?hg (N := 18) ?hd (xs := ([(⟨#[106, 111, 105, 110, 95, 97, 117, 116, 104, 111, 114, 105, 115, 101, 100, 95, 118, 105, 97, 95, 117, 115, 101, 114, 115, 95, 115, 101, 114, 118, 101, 114]⟩ : ByteArray), (⟨#[109, 101, 109, 98, 101, 114, 115, 104, 105, 112]⟩ : ByteArray), (⟨#[116, 104, 105, 114, 100, 95, 112, 97, 114, 116, 121, 95, 105, 110, 118, 105, 116, 101]⟩ : ByteArray)] : List ByteArray)) (inner := [.string (⟨#[106, 111, 105, 110, 95, 97, 117, 116, 104, 111, 114, 105, 115, 101, 100, 95, 118, 105, 97, 95, 117, 115, 101, 114, 115, 95, 115, 101, 114, 118, 101, 114]⟩ : ByteArray), .string (⟨#[109, 101, 109, 98, 101, 114, 115, 104, 105, 112]⟩ : ByteArray), .string (⟨#[116, 104, 105, 114, 100, 95, 112, 97, 114, 116, 121, 95, 105, 110, 118, 105, 116, 101]⟩ : ByteArray)]) (ok := fun _ => True) (okp := fun _ => True) ?hr ?hp (fun _ hk => hk) trivial (Below.refl _ _) (Nat.le_refl _) (by simp) ?_; (case hd => rfl); (case hg => rfl); (case hr => first | (go_simp; done) | (go_simp; rfl)); (case hp => exact (Reps.one (show Kd.M Kd.string _ _ _ (⟨#[106, 111, 105, 110, 95, 97, 117, 116, 104, 111, 114, 105, 115, 101, 100, 95, 118, 105, 97, 95, 117, 115, 101, 114, 115, 95, 115, 101, 114, 118, 101, 114]⟩ : ByteArray) [.string (⟨#[106, 111, 105, 110, 95, 97, 117, 116, 104, 111, 114, 105, 115, 101, 100, 95, 118, 105, 97, 95, 117, 115, 101, 114, 115, 95, 115, 101, 114, 118, 101, 114]⟩ : ByteArray)] from rfl) (Reps.one (show Kd.M Kd.string _ _ _ (⟨#[109, 101, 109, 98, 101, 114, 115, 104, 105, 112]⟩ : ByteArray) [.string (⟨#[109, 101, 109, 98, 101, 114, 115, 104, 105, 112]⟩ : ByteArray)] from rfl) (Reps.one (show Kd.M Kd.string _ _ _ (⟨#[116, 104, 105, 114, 100, 95, 112, 97, 114, 116, 121, 95, 105, 110, 118, 105, 116, 101]⟩ : ByteArray) [.string (⟨#[116, 104, 105, 114, 100, 95, 112, 97, 114, 116, 121, 95, 105, 110, 118, 105, 116, 101]⟩ : ByteArray)] from rfl) (Reps.none _ _)))))
              intro v1073 w12 ho13 hb hg_ hnew_
              clear hg_ hnew_
              (first | rw [← Ny1072.out] at ho13 | (simp only [Int.reduceToNat] at ho13; rw [← Ny1072.out] at ho13))
              have n0_ := Aside0.mk (Kd.R_below (by (with_reducible repeat (first | apply Kd.R_alloc | apply Kd.R_drewN | apply Kd.R_drew)); exact HO1071.out) hb)
              have n1_ := Aside0.mk (Kd.R_lower ho13 (below_size (by repeat (first | (with_reducible first | exact HB.out | apply below_alloc | apply pw_below_drewN | apply below_drew1) | exact HB.out))))
              have n2_ := Aside0.mk (below_step (by repeat (first | (with_reducible first | exact HB.out | apply below_alloc | apply pw_below_drewN | apply below_drew1) | exact HB.out)) hb)
              have z_HO1079 := fun (h0_ : b 7 = true) => (show Kd.R Kd.bool 4 w12 w.heap.size (fun k_ => some k_ ≠ (.slice (some ad1075) t1068.length co11 : Value).ownBlock) v1078 y1077 from by first | exact (Kd.R_below (by (with_reducible repeat (first | apply Kd.R_alloc | apply Kd.R_drewN | apply Kd.R_drew)); exact (Q_HO1079 h0_)) hb) | exact Kd.R_mono (Kd.R_below (by (with_reducible repeat (first | apply Kd.R_alloc | apply Kd.R_drewN | apply Kd.R_drew)); exact (Q_HO1079 h0_)) hb) (fun _ h_ => by first | trivial | exact h_ | exact h_.1))
              clear HO1071
              clear HB
              have HO1071 := n0_
              have HO1074 := n1_
              have HB := n2_
              clear n0_ n1_ n2_
              clear hb ho13
              refine hK.out _ _ ⟨v1073, v1078, v1081, m9_, (by rw [ha.out]; exact putSel_upk 0 hb_ rfl rfl rfl), (by (with_reducible repeat (first | apply Kd.R_alloc | apply Kd.R_drewN | apply Kd.R_drew)); exact HO1071.out), (by repeat (first | (with_reducible first | exact HB.out | apply below_alloc | apply pw_below_drewN | apply below_drew1) | exact HB.out)), fun _ => (by (with_reducible repeat (first | apply Kd.R_alloc | apply Kd.R_drewN | apply Kd.R_drew)); exact HO1074.out), z_HO1079, fun h0_ => absurd ((hoff 8 (by kernel_rfl)).symm.trans h0_) (by decide), fun h0_ => absurd ((hoff 9 (by kernel_rfl)).symm.trans h0_) (by decide)⟩
            refine steps_cons ?_ ?_
            · rintro b a w' ⟨v1073, v1078, v1081, m9_, ha, Q_HO1071, Q_HB, Q_HO1074, Q_HO1079, Q_HO1082, Q_X9_⟩ hb_ hon hoff
              refine ⟨_, rfl, fun K hK => ?_⟩
              have e19 : a.tmps[19]? = some (.slice (some ad1075) t1068.length co11) := by rw [ha]; exact (putSel_off rfl).trans rfl
              replace ha := Aside0.mk ha
              have HO1071 := Aside0.mk Q_HO1071
              have HB := Aside0.mk Q_HB
              refine value_ (w1 := w') (v := .pointer (some (ad1075.add 5))) (by rfl) rfl ?_ ?_
              · go_simp
                (try simp only [i64_w])
                try rfl
              refine hK.out _ _ ⟨v1073, v1078, v1081, m9_, (by rw [ha.out]; exact putSel_upk 1 hb_ rfl rfl rfl), Q_HO1071, Q_HB, Q_HO1074, fun h0_ => absurd ((hoff 7 (by kernel_rfl)).symm.trans h0_) (by decide), fun h0_ => absurd ((hoff 8 (by kernel_rfl)).symm.trans h0_) (by decide), fun h0_ => absurd ((hoff 9 (by kernel_rfl)).symm.trans h0_) (by decide)⟩
            refine steps_cons ?_ ?_
            · rintro b a w' ⟨v1073, v1078, v1081, m9_, ha, Q_HO1071, Q_HB, Q_HO1074, Q_HO1079, Q_HO1082, Q_X9_⟩ hb_ hon hoff
              refine ⟨_, rfl, fun K hK => ?_⟩
              have e20 : a.tmps[20]? = some (.pointer (some (ad1075.add 5))) := by rw [ha]; exact putSel_on (e := (2, 20, .pointer (some (ad1075.add 5)))) 1 rfl rfl (hon 2 (by kernel_rfl)) rfl
              replace ha := Aside0.mk ha
              have HO1071 := Aside0.mk Q_HO1071
              have HB := Aside0.mk Q_HB
              obtain ⟨ad1075_z, e1075_z, hx1075_0_z⟩ := Kd.at_bool (Kd.R_reads' HO1071.out).2.2 5 (of_eq_true p1075) (of_eq_true q1075)
              cases e1075_z
              have hs0_ : w'.cell? ⟨ad1075.block, ad1075.off + 5, none⟩ = some (.bool (rdOf false t1068 5)) := (by first | exact hx1075_0_z | (have h_ := hx1075_0_z; (try simp only [Int.reduceToNat, Nat.zero_mul, Nat.reduceMul, Nat.reduceEqDiff, Go.Addr.add, ↓reduceIte, Addr.add_zero'] at h_); exact h_))
              refine value_ (w1 := w') (v := .bool (rdOf false t1068 5)) (by rfl) rfl ?_ ?_
              · go_simp
                (try simp only [i64_w])
                try rfl
              refine hK.out _ _ ⟨v1073, v1078, v1081, m9_, (by rw [ha.out]; exact putSel_upk 2 hb_ rfl rfl rfl), Q_HO1071, Q_HB, Q_HO1074, fun h0_ => absurd ((hoff 7 (by kernel_rfl)).symm.trans h0_) (by decide), fun h0_ => absurd ((hoff 8 (by kernel_rfl)).symm.trans h0_) (by decide), fun h0_ => absurd ((hoff 9 (by kernel_rfl)).symm.trans h0_) (by decide)⟩
            refine steps_cons ?_ ?_
            · rintro b a w' ⟨v1073, v1078, v1081, m9_, ha, Q_HO1071, Q_HB, Q_HO1074, Q_HO1079, Q_HO1082, Q_X9_⟩ hb_ hon hoff
              refine ⟨_, rfl, fun K hK => ?_⟩
              have e22 : a.tmps[22]? = some (.slice (some ad1075) t1068.length co11) := by rw [ha]; exact (putSel_off rfl).trans rfl
              replace ha := Aside0.mk ha
              have HO1071 := Aside0.mk Q_HO1071
              have HB := Aside0.mk Q_HB
              refine value_ (w1 := w') (v := .pointer (some (ad1075.add 6))) (by rfl) rfl ?_ ?_
              · go_simp
                (try simp only [i64_w])
                try rfl
              refine hK.out _ _ ⟨v1073, v1078, v1081, m9_, (by rw [ha.out]; exact putSel_upk 3 hb_ rfl rfl rfl), Q_HO1071, Q_HB, Q_HO1074, fun h0_ => absurd ((hoff 7 (by kernel_rfl)).symm.trans h0_) (by decide), fun h0_ => absurd ((hoff 8 (by kernel_rfl)).symm.trans h0_) (by decide), fun h0_ => absurd ((hoff 9 (by kernel_rfl)).symm.trans h0_) (by decide)⟩
            refine steps_cons ?_ ?_
            · rintro b a w' ⟨v1073, v1078, v1081, m9_, ha, Q_HO1071, Q_HB, Q_HO1074, Q_HO1079, Q_HO1082, Q_X9_⟩ hb_ hon hoff
              refine ⟨_, rfl, fun K hK => ?_⟩
              have e23 : a.tmps[23]? = some (.pointer (some (ad1075.add 6))) := by rw [ha]; exact putSel_on (e := (5, 23, .pointer (some (ad1075.add 6)))) 3 rfl rfl (hon 5 (by kernel_rfl)) rfl
              replace ha := Aside0.mk ha
              have HO1071 := Aside0.mk Q_HO1071
              have HB := Aside0.mk Q_HB
              obtain ⟨ad1076_z, e1076_z, hx1076_0_z⟩ := Kd.at_bool (Kd.R_reads' HO1071.out).2.2 6 (of_eq_true p1076) (of_eq_true q1076)
              cases e1076_z
              have hs1_ : w'.cell? ⟨ad1075.block, ad1075.off + 6, none⟩ = some (.bool (rdOf false t1068 6)) := (by first | exact hx1076_0_z | (have h_ := hx1076_0_z; (try simp only [Int.reduceToNat, Nat.zero_mul, Nat.reduceMul, Nat.reduceEqDiff, Go.Addr.add, ↓reduceIte, Addr.add_zero'] at h_); exact h_))
              refine value_ (w1 := w') (v := .bool (rdOf false t1068 6)) (by rfl) rfl ?_ ?_
              · go_simp
                (try simp only [i64_w])
                try rfl
              refine hK.out _ _ ⟨v1073, v1078, v1081, m9_, (by rw [ha.out]; exact putSel_upk 4 hb_ rfl rfl rfl), Q_HO1071, Q_HB, Q_HO1074, fun h0_ => absurd ((hoff 7 (by kernel_rfl)).symm.trans h0_) (by decide), fun h0_ => absurd ((hoff 8 (by kernel_rfl)).symm.trans h0_) (by decide), fun h0_ => absurd ((hoff 9 (by kernel_rfl)).symm.trans h0_) (by decide)⟩
            refine steps_cons ?_ ?_
            · rintro b a w' ⟨v1073, v1078, v1081, m9_, ha, Q_HO1071, Q_HB, Q_HO1074, Q_HO1079, Q_HO1082, Q_X9_⟩ hb_ hon hoff
              refine ⟨_, rfl, fun K hK => ?_⟩
              have e21 : a.tmps[21]? = some (.bool (rdOf false t1068 5)) := by rw [ha]; exact putSel_on (e := (3, 21, .bool (rdOf false t1068 5))) 2 rfl rfl (hon 3 (by kernel_rfl)) rfl
              have e24 : a.tmps[24]? = some (.bool (rdOf false t1068 6)) := by rw [ha]; exact putSel_on (e := (6, 24, .bool (rdOf false t1068 6))) 4 rfl rfl (hon 6 (by kernel_rfl)) rfl
              replace ha := Aside0.mk ha
              have HO1071 := Aside0.mk Q_HO1071
              have HB := Aside0.mk Q_HB
              refine Kd.R_lit_step Kd.bool _ 4 ?hg (N := 25) ?hd (xs := ([rdOf false t1068 5, true, rdOf false t1068 6] : List Bool)) (inner := [.bool (rdOf false t1068 5), .bool true, .bool (rdOf false t1068 6)]) (ok := fun _ => True) (okp := fun _ => True) ?hr ?hp (fun _ hk => hk) trivial (Below.refl _ _) (Nat.le_refl _) (by simp) ?_; (case hd => rfl); (case hg => rfl); (case hr => first | (go_simp; done) | (go_simp; rfl)); (case hp => exact (Reps.one (show Kd.M Kd.bool _ _ _ (rdOf false t1068 5) [.bool (rdOf false t1068 5)] from rfl) (Reps.one (show Kd.M Kd.bool _ _ _ true [.bool true] from rfl) (Reps.one (show Kd.M Kd.bool _ _ _ (rdOf false t1068 6) [.bool (rdOf false t1068 6)] from rfl) (Reps.none _ _)))))
              intro v1078 w12 ho13 hb hg_ hnew_
              clear hg_ hnew_
              (first | rw [← Ny1077.out] at ho13 | (simp only [Int.reduceToNat] at ho13; rw [← Ny1077.out] at ho13))
              have n0_ := Aside0.mk (Kd.R_elder' (by (with_reducible repeat (first | apply Kd.R_alloc | apply Kd.R_drewN | apply Kd.R_drew)); exact HO1071.out) (Kd.R_base ho13) hb)
              have n1_ := Aside0.mk (Kd.R_lower (Kd.R_new' ho13 (Kd.R_lt (by (with_reducible repeat (first | apply Kd.R_alloc | apply Kd.R_drewN | apply Kd.R_drew)); exact HO1071.out))) (below_size (by repeat (first | (with_reducible first | exact HB.out | apply below_alloc | apply pw_below_drewN | apply below_drew1) | exact HB.out))))
              have n2_ := Aside0.mk (below_step (by repeat (first | (with_reducible first | exact HB.out | apply below_alloc | apply pw_below_drewN | apply below_drew1) | exact HB.out)) hb)
              have z_HO1074 := fun (h0_ : b 0 = true) => (show Kd.R Kd.string 9 w12 w.heap.size (fun _ => True) v1073 y1072 from by first | exact (Kd.R_below (by (with_reducible repeat (first | apply Kd.R_alloc | apply Kd.R_drewN | apply Kd.R_drew)); exact (Q_HO1074 h0_)) hb) | exact Kd.R_mono (Kd.R_below (by (with_reducible repeat (first | apply Kd.R_alloc | apply Kd.R_drewN | apply Kd.R_drew)); exact (Q_HO1074 h0_)) hb) (fun _ h_ => by first | trivial | exact h_ | exact h_.1))
              clear HO1071
              clear HB
              have HO1071 := n0_
              have HO1079 := n1_
              have HB := n2_
              clear n0_ n1_ n2_
              clear hb ho13
              refine hK.out _ _ ⟨v1073, v1078, v1081, m9_, (by rw [ha.out]; exact putSel_upk 5 hb_ rfl rfl rfl), (by (with_reducible repeat (first | apply Kd.R_alloc | apply Kd.R_drewN | apply Kd.R_drew)); first | first | exact Kd.R_mono HO1071.out (fun _ hk => hk.2) | exact Kd.R_mono HO1071.out (fun _ _ => trivial) | exact Kd.R_mono HO1071.out (fun _ _ => trivial)), (by repeat (first | (with_reducible first | exact HB.out | apply below_alloc | apply pw_below_drewN | apply below_drew1) | exact HB.out)), z_HO1074, fun _ => (by (with_reducible repeat (first | apply Kd.R_alloc | apply Kd.R_drewN | apply Kd.R_drew)); first | first | exact Kd.R_mono HO1079.out (fun _ hk => hk.2) | exact Kd.R_mono HO1079.out (fun _ _ => trivial) | exact Kd.R_mono HO1079.out (fun _ _ => trivial)), fun h0_ => absurd ((hoff 8 (by kernel_rfl)).symm.trans h0_) (by decide), fun h0_ => absurd ((hoff 9 (by kernel_rfl)).symm.trans h0_) (by decide)⟩
            refine steps_cons ?_ ?_
            · rintro b a w' ⟨v1073, v1078, v1081, m9_, ha, Q_HO1071, Q_HB, Q_HO1074, Q_HO1079, Q_HO1082, Q_X9_⟩ hb_ hon hoff
              refine ⟨_, rfl, fun K hK => ?_⟩
              have e18 : a.tmps[18]? = some (v1073) := by rw [ha]; exact putSel_on (e := (0, 18, v1073)) 0 rfl rfl (hon 0 (by kernel_rfl)) rfl
              have e25 : a.tmps[25]? = some (v1078) := by rw [ha]; exact putSel_on (e := (7, 25, v1078)) 5 rfl rfl (hon 7 (by kernel_rfl)) rfl
              replace ha := Aside0.mk ha
              have HO1071 := Aside0.mk Q_HO1071
              have HB := Aside0.mk Q_HB
              have HO1074 := Aside0.mk (Q_HO1074 (hon 0 (by kernel_rfl)))
              have HO1079 := Aside0.mk (Q_HO1079 (hon 7 (by kernel_rfl)))
              obtain ⟨Ao17, co17, eo17⟩ := Kd.R_slice HO1074.out
              (first | subst eo17 | (injection eo17 with f1_ f2_ f3_; have f4_ := f1_.symm; have f5_ := f3_.symm; clear f1_ f2_ f3_; subst f4_; subst f5_))
              obtain ⟨Ao18, co18, eo18⟩ := Kd.R_slice HO1079.out
              (first | subst eo18 | (injection eo18 with f1_ f2_ f3_; have f4_ := f1_.symm; have f5_ := f3_.symm; clear f1_ f2_ f3_; subst f4_; subst f5_))
              refine goes_ Try.func104 (by kernel_rfl) rfl #[.slice Ao17 y1072.length co17, .slice Ao18 y1077.length co18] (by rfl) rfl rfl (by first | (simp only [List.map_toArray, List.map_cons, List.map_nil, Act.eval, Array.getD_eq_getD_getElem?, Option.getD_some, e18, e25]; done) | (simp only [List.map_toArray, List.map_cons, List.map_nil, Act.eval, Array.getD_eq_getD_getElem?, Option.getD_some, e18, e25]; rfl)) ?_
              with_reducible refine (sealringref32_some.calls k _ _ y1072 _ _ y1077 t1080 _ ?side1 ?side2 ?side3 ?side4 A8.out).mono ?_
              (case side1 => repeat (first | exact (Kd.R_reads' HO1074.out).2.2 | (with_reducible refine Kd.C_alloc ?_ _) | (with_reducible refine Kd.C_drewN ?_ _) | (with_reducible refine Kd.C_drew ?_)))
              (case side2 => exact (Kd.R_reads' HO1074.out).2.1)
              (case side3 => repeat (first | exact (Kd.R_reads' HO1079.out).2.2 | (with_reducible refine Kd.C_alloc ?_ _) | (with_reducible refine Kd.C_drewN ?_ _) | (with_reducible refine Kd.C_drew ?_)))
              (case side4 => exact (Kd.R_reads' HO1079.out).2.1)
              rintro e w19 ⟨v1081, rfl, ho0, hb⟩
              refine ⟨_, rfl, ?_⟩
              have n0_ := Aside0.mk (Kd.R_below (by (with_reducible repeat (first | apply Kd.R_alloc | apply Kd.R_drewN | apply Kd.R_drew)); exact HO1071.out) hb)
              have n1_ := Aside0.mk (Kd.R_elder' (by (with_reducible repeat (first | apply Kd.R_alloc | apply Kd.R_drewN | apply Kd.R_drew)); exact HO1074.out) (Kd.R_base ho0) hb)
              have n2_ := Aside0.mk (Kd.R_below (by (with_reducible repeat (first | apply Kd.R_alloc | apply Kd.R_drewN | apply Kd.R_drew)); exact HO1079.out) hb)
              have n3_ := Aside0.mk (Kd.R_lower (Kd.R_new' ho0 (Kd.R_lt (by (with_reducible repeat (first | apply Kd.R_alloc | apply Kd.R_drewN | apply Kd.R_drew)); exact HO1074.out))) (below_size (by repeat (first | (with_reducible first | exact HB.out | apply below_alloc | apply pw_below_drewN | apply below_drew1) | exact HB.out))))
              have n4_ := Aside0.mk (below_step (by repeat (first | (with_reducible first | exact HB.out | apply below_alloc | apply pw_below_drewN | apply below_drew1) | exact HB.out)) hb)
              clear HO1071
              clear HO1074
              clear HO1079
              clear HB
              have HO1071 := n0_
              have HO1074 := n1_
              have HO1079 := n2_
              have HO1082 := n3_
              have HB := n4_
              clear n0_ n1_ n2_ n3_ n4_
              (try clear hb)
              (try clear hb2)
              (try clear hk)
              (try clear hi)
              (try clear ho0)
              refine hK.out _ _ ⟨.slice Ao17 y1072.length co17, .slice Ao18 y1077.length co18, v1081, m9_, (by rw [ha.out]; exact putSel_upk 6 hb_ rfl rfl rfl), (by (with_reducible repeat (first | apply Kd.R_alloc | apply Kd.R_drewN | apply Kd.R_drew)); exact HO1071.out), (by repeat (first | (with_reducible first | exact HB.out | apply below_alloc | apply pw_below_drewN | apply below_drew1) | exact HB.out)), fun _ => (by (with_reducible repeat (first | apply Kd.R_alloc | apply Kd.R_drewN | apply Kd.R_drew)); first | first | exact Kd.R_mono HO1074.out (fun _ hk => hk.2) | exact Kd.R_mono HO1074.out (fun _ _ => trivial) | exact Kd.R_mono HO1074.out (fun _ _ => trivial)), fun _ => (by (with_reducible repeat (first | apply Kd.R_alloc | apply Kd.R_drewN | apply Kd.R_drew)); exact HO1079.out), fun _ => (by (with_reducible repeat (first | apply Kd.R_alloc | apply Kd.R_drewN | apply Kd.R_drew)); first | first | exact Kd.R_mono HO1082.out (fun _ hk => hk.2) | exact Kd.R_mono HO1082.out (fun _ _ => trivial) | exact Kd.R_mono HO1082.out (fun _ _ => trivial)), fun h0_ => absurd ((hoff 9 (by kernel_rfl)).symm.trans h0_) (by decide)⟩
            refine steps_cons ?_ ?_
            · rintro b a w' ⟨v1073, v1078, v1081, m9_, ha, Q_HO1071, Q_HB, Q_HO1074, Q_HO1079, Q_HO1082, Q_X9_⟩ hb_ hon hoff
              refine ⟨_, rfl, fun K hK => ?_⟩
              have e26 : a.tmps[26]? = some (v1081) := by rw [ha]; exact putSel_on (e := (8, 26, v1081)) 6 rfl rfl (hon 8 (by kernel_rfl)) rfl
              replace ha := Aside0.mk ha
              have HO1071 := Aside0.mk Q_HO1071
              have HB := Aside0.mk Q_HB
              have HO1074 := Aside0.mk (Q_HO1074 (hon 0 (by kernel_rfl)))
              have HO1079 := Aside0.mk (Q_HO1079 (hon 7 (by kernel_rfl)))
              have HO1082 := Aside0.mk (Q_HO1082 (hon 8 (by kernel_rfl)))
              refine value_ (w1 := w') (v := v1081) (by rfl) rfl ?_ ?_
              · go_simp
                (try simp only [i64_w])
                try rfl
              refine hK.out _ _ ⟨v1073, v1078, v1081, (v1081), (by rw [ha.out]; exact putSel_upk 7 hb_ rfl rfl rfl), Q_HO1071, Q_HB, Q_HO1074, Q_HO1079, Q_HO1082, fun _ => rfl⟩
            refine steps_cons ?_ ?_
            · rintro b a w' ⟨v1073, v1078, v1081, m9_, ha, Q_HO1071, Q_HB, Q_HO1074, Q_HO1079, Q_HO1082, Q_X9_⟩ hb_ hon hoff
              refine ⟨_, rfl, fun K hK => ?_⟩
              replace ha := Aside0.mk ha
              have HO1071 := Aside0.mk Q_HO1071
              have HB := Aside0.mk Q_HB
              have HO1074 := Aside0.mk (Q_HO1074 (hon 0 (by kernel_rfl)))
              have HO1079 := Aside0.mk (Q_HO1079 (hon 7 (by kernel_rfl)))
              have HO1082 := Aside0.mk (Q_HO1082 (hon 8 (by kernel_rfl)))
              refine value_ (w1 := w') (v := .bool false) (by rfl) rfl ?_ ?_
              · go_simp
                (try simp only [i64_w])
                try rfl
              refine hK.out _ _ ⟨v1073, v1078, v1081, m9_, (by rw [ha.out]; exact putSel_upk 8 hb_ rfl rfl rfl), Q_HO1071, Q_HB, Q_HO1074, Q_HO1079, Q_HO1082, Q_X9_⟩
            exact steps_nil
          rintro b a w19 hall ⟨v1073, v1078, v1081, m9_, ha, Q_HO1071, Q_HB, Q_HO1074, Q_HO1079, Q_HO1082, Q_X9_⟩
          clear HB HO1071
          have hb0_ := hall 0 (by kernel_rfl)
          have hb2_ := hall 2 (by kernel_rfl)
          have hb3_ := hall 3 (by kernel_rfl)
          have hb5_ := hall 5 (by kernel_rfl)
          have hb6_ := hall 6 (by kernel_rfl)
          have hb7_ := hall 7 (by kernel_rfl)
          have hb8_ := hall 8 (by kernel_rfl)
          have hb9_ := hall 9 (by kernel_rfl)
          have hb10_ := hall 10 (by kernel_rfl)
          subst ha
          obtain rfl := Q_X9_ hb9_
          simp only [putSel, hb0_, hb2_, hb3_, hb5_, hb6_, hb7_, hb8_, hb9_, hb10_, if_true, Act.put, List.setIfInBounds_toArray, List.set_cons_zero, List.set_cons_succ]
          have HO1071 := Aside0.mk Q_HO1071
          clear Q_HO1071
          have HB := Aside0.mk Q_HB
          clear Q_HB
          have HO1074 := Aside0.mk (Q_HO1074 hb0_)
          clear Q_HO1074
          have HO1079 := Aside0.mk (Q_HO1079 hb7_)
          clear Q_HO1079
          have HO1082 := Aside0.mk (Q_HO1082 hb8_)
          clear Q_HO1082
          clear hall hb0_ hb2_ hb3_ hb5_ hb6_ hb7_ hb8_ hb9_ hb10_
          try go_wp2
          go_ret2
          exact ⟨_, by first | rfl | (simp [errW_none, errW_some] <;> rfl) | (simp [*, errW_none, errW_some] <;> rfl), by (with_reducible repeat (first | apply Kd.R_alloc | apply Kd.R_drewN | apply Kd.R_drew)); exact Kd.R_mono HO1082.out (fun _ hk => trivial), by repeat (first | (with_reducible first | exact HB.out | apply below_alloc | apply pw_below_drewN | apply below_drew1) | exact HB.out)⟩
        · rw [if_neg c7] at H
          exact absurd H (by simp)
      · rw [if_neg c6] at H
        exact absurd H (by simp)
    · rw [if_neg c5] at H
      have c5b0 : (a1.toList == ([109, 46, 114, 111, 111, 109, 46, 109, 101, 109, 98, 101, 114] : List UInt8)) = false := beq_eq_false_iff_ne.mpr c5
      have c5b1 : (a1.toList != ([109, 46, 114, 111, 111, 109, 46, 109, 101, 109, 98, 101, 114] : List UInt8)) = true := bne_iff_ne.mpr c5
      by_cases c20 : a1.toList = ([109, 46, 114, 111, 111, 109, 46, 99, 114, 101, 97, 116, 101] : List UInt8)
      · rw [if_pos c20] at H
        have c20b0 : (a1.toList == ([109, 46, 114, 111, 111, 109, 46, 99, 114, 101, 97, 116, 101] : List UInt8)) = true := beq_iff_eq.mpr c20
        have c20b1 : (a1.toList != ([109, 46, 114, 111, 111, 109, 46, 99, 114, 101, 97, 116, 101] : List UInt8)) = false := bne_eq_false_iff_eq.mpr c20
        clear c20
        by_cases c21 : 6 < (t1068.length : Int)
        · rw [if_pos c21] at H
          have c21b0 : decide (6 < (t1068.length : Int)) = true := decide_eq_true c21
          have c21b1 : decide (6 < t1068.length) = true := decide_eq_true (by omega)
          clear c21
          obtain ⟨bq22, hbq22⟩ : ∃ b_ : Bool, b_ = (rdOf false t1068 6) := ⟨_, rfl⟩
          replace H : (if bq22 = true then (some (([] : List ByteArray), true)) else (some ((([(⟨#[99, 114, 101, 97, 116, 111, 114]⟩ : ByteArray)] : List ByteArray)), false))) = some (r1, r2) := by rw [← hbq22] at H; exact H
          have Nbq22 := Aside0.mk hbq22
          clear hbq22
          by_cases c23 : bq22 = true
          · subst c23
            have H1 : (some (([] : List ByteArray), true)) = some (r1, r2) := by rw [if_pos rfl] at H; exact H
            clear H
            have H := H1
            clear H1
            simp only [Option.some.injEq, Prod.mk.injEq] at H
            obtain ⟨rfl, rfl⟩ := H
            go_enter Try.func56, Try.ntmps56
            go_wp2_with (first | ((with_reducible refine gate_callee (f := 102) rfl ?_); refine goesL_ (some 10) rfl rfl Try.func102 (by kernel_rfl) rfl #[.int .i64 a0] rfl (by (try simp only [List.map_toArray, List.map_cons, List.map_nil]); first | done | rfl | (simp only [List.length_drop, List.length_take]; rfl)) ?_; (with_reducible refine (sealringref26_Of.calls a0 t1068 true _ A3.out).mono ?_); rintro e w24 ⟨v1070, rfl, ho0, hb⟩; refine ⟨_, rfl, ?_⟩; have n0_ := Aside0.mk (Kd.R_lower ho0 (below_size (by repeat (first | (with_reducible first | exact HB.out | apply below_alloc | apply pw_below_drewN | apply below_drew1) | exact HB.out)))); have n1_ := Aside0.mk (below_step (by repeat (first | (with_reducible first | exact HB.out | apply below_alloc | apply pw_below_drewN | apply below_drew1) | exact HB.out)) hb); clear HB; have HO1071 := n0_; have HB := n1_; clear n0_ n1_; (try clear hb); (try clear hb2); (try clear hk); (try clear hi); (try clear ho0); obtain ⟨Ao25, co25, eo25⟩ := Kd.R_slice HO1071.out; subst eo25; have p1083 : 0 ≤ (6 : Int) := (by omega); have q1083 : 6 < (t1068.length : Int) := of_decide_eq_true (by first | (with_reducible assumption) | assumption); obtain ⟨ad1083, e1083, hx1083_0⟩ := Kd.at_bool (Kd.R_reads' HO1071.out).2.2 6 p1083 q1083; (try rw [← Nbq22.out] at hx1083_0); cases e1083; (try simp only [show (6 : Int).toNat = 6 from rfl, Nat.reduceMul, Nat.reduceEqDiff, Go.Addr.add, ↓reduceIte] at hx1083_0); have qi1083 : (6 < t1068.length) = True := eq_true (by omega); (try rw [show ((6 : Int)).toNat = 6 from rfl] at hx1083_0); replace p1083 := eq_true p1083; replace q1083 := eq_true q1083))
            go_ret2
            exact ⟨_, by first | rfl | (simp [errW_none, errW_some] <;> rfl) | (simp [*, errW_none, errW_some] <;> rfl), by first | exact Kd.R_nil _ _ _ _ _ | exact Kd.N_nil _ _ _ _ _ | exact Kd.V_nil _ _ _ _ _ | exact Kd.Q_nil _ _ _ _ _ | exact Kd.S_nil _ _ _ _ _, by repeat (first | (with_reducible first | exact HB.out | apply below_alloc | apply pw_below_drewN | apply below_drew1) | exact HB.out)⟩
          · replace c23 := Bool.eq_false_iff.mpr c23
            subst c23
            have H1 : (some ((([(⟨#[99, 114, 101, 97, 116, 111, 114]⟩ : ByteArray)] : List ByteArray)), false)) = some (r1, r2) := by rw [if_neg (show ¬ (false = true) by decide)] at H; exact H
            clear H
            have H := H1
            clear H1
            obtain ⟨y1084, hy1084⟩ : ∃ y_ : List ByteArray, y_ = (([(⟨#[99, 114, 101, 97, 116, 111, 114]⟩ : ByteArray)] : List ByteArray)) := ⟨_, rfl⟩
            replace H : (some (y1084, false)) = some (r1, r2) := by first | (rw [hy1084]; with_reducible exact H) | (have H2_ := (Option.bind_some _ _).symm.trans H; rw [hy1084]; with_reducible exact H2_) | (have H2_ := (Option.bind_some _ _).symm.trans H; with_reducible exact H2_) | with_reducible exact H | (rw [hy1084]; exact H) | exact H
            have Ny1084 := Aside0.mk hy1084
            clear hy1084
            simp only [Option.some.injEq, Prod.mk.injEq] at H
            obtain ⟨rfl, rfl⟩ := H
            go_enter Try.func56, Try.ntmps56
            go_wp2_with (first | ((with_reducible refine gate_callee (f := 102) rfl ?_); refine goesL_ (some 10) rfl rfl Try.func102 (by kernel_rfl) rfl #[.int .i64 a0] rfl (by (try simp only [List.map_toArray, List.map_cons, List.map_nil]); first | done | rfl | (simp only [List.length_drop, List.length_take]; rfl)) ?_; (with_reducible refine (sealringref26_Of.calls a0 t1068 true _ A3.out).mono ?_); rintro e w26 ⟨v1070, rfl, ho0, hb⟩; refine ⟨_, rfl, ?_⟩; have n0_ := Aside0.mk (Kd.R_lower ho0 (below_size (by repeat (first | (with_reducible first | exact HB.out | apply below_alloc | apply pw_below_drewN | apply below_drew1) | exact HB.out)))); have n1_ := Aside0.mk (below_step (by repeat (first | (with_reducible first | exact HB.out | apply below_alloc | apply pw_below_drewN | apply below_drew1) | exact HB.out)) hb); clear HB; have HO1071 := n0_; have HB := n1_; clear n0_ n1_; (try clear hb); (try clear hb2); (try clear hk); (try clear hi); (try clear ho0); obtain ⟨Ao27, co27, eo27⟩ := Kd.R_slice HO1071.out; subst eo27; have p1083 : 0 ≤ (6 : Int) := (by omega); have q1083 : 6 < (t1068.length : Int) := of_decide_eq_true (by first | (with_reducible assumption) | assumption); obtain ⟨ad1083, e1083, hx1083_0⟩ := Kd.at_bool (Kd.R_reads' HO1071.out).2.2 6 p1083 q1083; (try rw [← Nbq22.out] at hx1083_0); cases e1083; (try simp only [show (6 : Int).toNat = 6 from rfl, Nat.reduceMul, Nat.reduceEqDiff, Go.Addr.add, ↓reduceIte] at hx1083_0); have qi1083 : (6 < t1068.length) = True := eq_true (by omega); (try rw [show ((6 : Int)).toNat = 6 from rfl] at hx1083_0); replace p1083 := eq_true p1083; replace q1083 := eq_true q1083) | ((with_reducible refine gate_dst (N := 32) rfl ?_); refine Kd.R_lit Kd.string _ 9 ?hg (N := 32) ?hd (xs := ([(⟨#[99, 114, 101, 97, 116, 111, 114]⟩ : ByteArray)] : List ByteArray)) (inner := [.string (⟨#[99, 114, 101, 97, 116, 111, 114]⟩ : ByteArray)]) (ok := fun _ => True) (okp := fun _ => True) ?hr ?hp (fun _ hk => hk) trivial (Below.refl _ _) (Nat.le_refl _) (by simp) ?_; (case hd => rfl); (case hg => rfl); (case hr => first | (go_simp; done) | (go_simp; rfl)); (case hp => exact (Reps.one (show Kd.M Kd.string _ _ _ (⟨#[99, 114, 101, 97, 116, 111, 114]⟩ : ByteArray) [.string (⟨#[99, 114, 101, 97, 116, 111, 114]⟩ : ByteArray)] from rfl) (Reps.none _ _))); intro v1085 w28 ho29 hb hg_ hnew_; clear hg_ hnew_; (first | rw [← Ny1084.out] at ho29 | (simp only [Int.reduceToNat] at ho29; rw [← Ny1084.out] at ho29)); have n0_ := Aside0.mk (Kd.R_below (by (with_reducible repeat (first | apply Kd.R_alloc | apply Kd.R_drewN | apply Kd.R_drew)); exact HO1071.out) hb); have n1_ := Aside0.mk (Kd.R_lower ho29 (below_size (by repeat (first | (with_reducible first | exact HB.out | apply below_alloc | apply pw_below_drewN | apply below_drew1) | exact HB.out)))); have n2_ := Aside0.mk (below_step (by repeat (first | (with_reducible first | exact HB.out | apply below_alloc | apply pw_below_drewN | apply below_drew1) | exact HB.out)) hb); clear HO1071; clear HB; have HO1071 := n0_; have HO1086 := n1_; have HB := n2_; clear n0_ n1_ n2_; clear hb ho29))
            go_ret2
            exact ⟨_, by first | rfl | (simp [errW_none, errW_some] <;> rfl) | (simp [*, errW_none, errW_some] <;> rfl), by (with_reducible repeat (first | apply Kd.R_alloc | apply Kd.R_drewN | apply Kd.R_drew)); exact HO1086.out, by repeat (first | (with_reducible first | exact HB.out | apply below_alloc | apply pw_below_drewN | apply below_drew1) | exact HB.out)⟩
        · rw [if_neg c21] at H
          exact absurd H (by simp)
      · rw [if_neg c20] at H
        have c20b0 : (a1.toList == ([109, 46, 114, 111, 111, 109, 46, 99, 114, 101, 97, 116, 101] : List UInt8)) = false := beq_eq_false_iff_ne.mpr c20
        have c20b1 : (a1.toList != ([109, 46, 114, 111, 111, 109, 46, 99, 114, 101, 97, 116, 101] : List UInt8)) = true := bne_iff_ne.mpr c20
        by_cases c30 : a1.toList = ([109, 46, 114, 111, 111, 109, 46, 106, 111, 105, 110, 95, 114, 117, 108, 101, 115] : List UInt8)
        · rw [if_pos c30] at H
          have c30b0 : (a1.toList == ([109, 46, 114, 111, 111, 109, 46, 106, 111, 105, 110, 95, 114, 117, 108, 101, 115] : List UInt8)) = true := beq_iff_eq.mpr c30
          have c30b1 : (a1.toList != ([109, 46, 114, 111, 111, 109, 46, 106, 111, 105, 110, 95, 114, 117, 108, 101, 115] : List UInt8)) = false := bne_eq_false_iff_eq.mpr c30
          clear c30
          obtain ⟨y1087, hy1087⟩ : ∃ y_ : List ByteArray, y_ = (([(⟨#[97, 108, 108, 111, 119]⟩ : ByteArray), (⟨#[106, 111, 105, 110, 95, 114, 117, 108, 101]⟩ : ByteArray)] : List ByteArray)) := ⟨_, rfl⟩
          replace H : (if 4 < (t1068.length : Int) then ((sealringref32_some.f k y1087 (([rdOf false t1068 4, true] : List Bool))).bind fun t1094 => (some (t1094, false))) else (none)) = some (r1, r2) := by first | (rw [hy1087]; with_reducible exact H) | (have H2_ := (Option.bind_some _ _).symm.trans H; rw [hy1087]; with_reducible exact H2_) | (have H2_ := (Option.bind_some _ _).symm.trans H; with_reducible exact H2_) | with_reducible exact H | (rw [hy1087]; exact H) | exact H
          have Ny1087 := Aside0.mk hy1087
          clear hy1087
          by_cases c31 : 4 < (t1068.length : Int)
          · rw [if_pos c31] at H
            have c31b0 : decide (4 < (t1068.length : Int)) = true := decide_eq_true c31
            have c31b1 : decide (4 < t1068.length) = true := decide_eq_true (by omega)
            clear c31
            obtain ⟨y1091, hy1091⟩ : ∃ y_ : List Bool, y_ = (([rdOf false t1068 4, true] : List Bool)) := ⟨_, rfl⟩
            replace H : ((sealringref32_some.f k y1087 y1091).bind fun t1094 => (some (t1094, false))) = some (r1, r2) := by first | (rw [hy1091]; with_reducible exact H) | (have H2_ := (Option.bind_some _ _).symm.trans H; rw [hy1091]; with_reducible exact H2_) | (have H2_ := (Option.bind_some _ _).symm.trans H; with_reducible exact H2_) | with_reducible exact H | (rw [hy1091]; exact H) | exact H
            have Ny1091 := Aside0.mk hy1091
            clear hy1091
            replace H := Option.bind_eq_some_iff.mp H
            obtain ⟨t1094, A320, H⟩ := H
            replace H : (some (t1094, false)) = some (r1, r2) := H
            have A32 := Aside0.mk A320
            clear A320
            simp only [Option.some.injEq, Prod.mk.injEq] at H
            obtain ⟨rfl, rfl⟩ := H
            go_enter Try.func56, Try.ntmps56
            go_wp2_with (first | ((with_reducible refine gate_callee (f := 102) rfl ?_); refine goesL_ (some 10) rfl rfl Try.func102 (by kernel_rfl) rfl #[.int .i64 a0] rfl (by (try simp only [List.map_toArray, List.map_cons, List.map_nil]); first | done | rfl | (simp only [List.length_drop, List.length_take]; rfl)) ?_; (with_reducible refine (sealringref26_Of.calls a0 t1068 true _ A3.out).mono ?_); rintro e w33 ⟨v1070, rfl, ho0, hb⟩; refine ⟨_, rfl, ?_⟩; have n0_ := Aside0.mk (Kd.R_lower ho0 (below_size (by repeat (first | (with_reducible first | exact HB.out | apply below_alloc | apply pw_below_drewN | apply below_drew1) | exact HB.out)))); have n1_ := Aside0.mk (below_step (by repeat (first | (with_reducible first | exact HB.out | apply below_alloc | apply pw_below_drewN | apply below_drew1) | exact HB.out)) hb); clear HB; have HO1071 := n0_; have HB := n1_; clear n0_ n1_; (try clear hb); (try clear hb2); (try clear hk); (try clear hi); (try clear ho0)) | ((with_reducible refine gate_dst (N := 35) rfl ?_); refine Kd.R_lit Kd.string _ 9 ?hg (N := 35) ?hd (xs := ([(⟨#[97, 108, 108, 111, 119]⟩ : ByteArray), (⟨#[106, 111, 105, 110, 95, 114, 117, 108, 101]⟩ : ByteArray)] : List ByteArray)) (inner := [.string (⟨#[97, 108, 108, 111, 119]⟩ : ByteArray), .string (⟨#[106, 111, 105, 110, 95, 114, 117, 108, 101]⟩ : ByteArray)]) (ok := fun _ => True) (okp := fun _ => True) ?hr ?hp (fun _ hk => hk) trivial (Below.refl _ _) (Nat.le_refl _) (by simp) ?_; (case hd => rfl); (case hg => rfl); (case hr => first | (go_simp; done) | (go_simp; rfl)); (case hp => exact (Reps.one (show Kd.M Kd.string _ _ _ (⟨#[97, 108, 108, 111, 119]⟩ : ByteArray) [.string (⟨#[97, 108, 108, 111, 119]⟩ : ByteArray)] from rfl) (Reps.one (show Kd.M Kd.string _ _ _ (⟨#[106, 111, 105, 110, 95, 114, 117, 108, 101]⟩ : ByteArray) [.string (⟨#[106, 111, 105, 110, 95, 114, 117, 108, 101]⟩ : ByteArray)] from rfl) (Reps.none _ _)))); intro v1088 w34 ho35 hb hg_ hnew_; clear hg_ hnew_; (first | rw [← Ny1087.out] at ho35 | (simp only [Int.reduceToNat] at ho35; rw [← Ny1087.out] at ho35)); have n0_ := Aside0.mk (Kd.R_below (by (with_reducible repeat (first | apply Kd.R_alloc | apply Kd.R_drewN | apply Kd.R_drew)); exact HO1071.out) hb); have n1_ := Aside0.mk (Kd.R_lower ho35 (below_size (by repeat (first | (with_reducible first | exact HB.out | apply below_alloc | apply pw_below_drewN | apply below_drew1) | exact HB.out)))); have n2_ := Aside0.mk (below_step (by repeat (first | (with_reducible first | exact HB.out | apply below_alloc | apply pw_below_drewN | apply below_drew1) | exact HB.out)) hb); clear HO1071; clear HB; have HO1071 := n0_; have HO1089 := n1_; have HB := n2_; clear n0_ n1_ n2_; clear hb ho35; obtain ⟨Ao36, co36, eo36⟩ := Kd.R_slice HO1071.out; subst eo36; have p1090 : 0 ≤ (4 : Int) := (by omega); have q1090 : 4 < (t1068.length : Int) := of_decide_eq_true (by first | (with_reducible assumption) | assumption); obtain ⟨ad1090, e1090, hx1090_0⟩ := Kd.at_bool (Kd.R_reads' HO1071.out).2.2 4 p1090 q1090; cases e1090; (try simp only [show (4 : Int).toNat = 4 from rfl, Nat.reduceMul, Nat.reduceEqDiff, Go.Addr.add, ↓reduceIte] at hx1090_0); have qi1090 : (4 < t1068.length) = True := eq_true (by omega); (try rw [show ((4 : Int)).toNat = 4 from rfl] at hx1090_0); replace p1090 := eq_true p1090; replace q1090 := eq_true q1090) | ((with_reducible refine gate_dst (N := 39) rfl ?_); refine Kd.R_lit Kd.bool _ 4 ?hg (N := 39) ?hd (xs := ([rdOf false t1068 4, true] : List Bool)) (inner := [.bool (rdOf false t1068 4), .bool true]) (ok := fun _ => True) (okp := fun _ => True) ?hr ?hp (fun _ hk => hk) trivial (Below.refl _ _) (Nat.le_refl _) (by simp) ?_; (case hd => rfl); (case hg => rfl); (case hr => first | (go_simp; done) | (go_simp; rfl)); (case hp => exact (Reps.one (show Kd.M Kd.bool _ _ _ (rdOf false t1068 4) [.bool (rdOf false t1068 4)] from rfl) (Reps.one (show Kd.M Kd.bool _ _ _ true [.bool true] from rfl) (Reps.none _ _)))); intro v1092 w37 ho38 hb hg_ hnew_; clear hg_ hnew_; (first | rw [← Ny1091.out] at ho38 | (simp only [Int.reduceToNat] at ho38; rw [← Ny1091.out] at ho38)); have n0_ := Aside0.mk (Kd.R_elder' (by (with_reducible repeat (first | apply Kd.R_alloc | apply Kd.R_drewN | apply Kd.R_drew)); exact HO1071.out) (Kd.R_base ho38) hb); have n1_ := Aside0.mk (Kd.R_below (by (with_reducible repeat (first | apply Kd.R_alloc | apply Kd.R_drewN | apply Kd.R_drew)); exact HO1089.out) hb); have n2_ := Aside0.mk (Kd.R_lower (Kd.R_new' ho38 (Kd.R_lt (by (with_reducible repeat (first | apply Kd.R_alloc | apply Kd.R_drewN | apply Kd.R_drew)); exact HO1071.out))) (below_size (by repeat (first | (with_reducible first | exact HB.out | apply below_alloc | apply pw_below_drewN | apply below_drew1) | exact HB.out)))); have n3_ := Aside0.mk (below_step (by repeat (first | (with_reducible first | exact HB.out | apply below_alloc | apply pw_below_drewN | apply below_drew1) | exact HB.out)) hb); clear HO1071; clear HO1089; clear HB; have HO1071 := n0_; have HO1089 := n1_; have HO1093 := n2_; have HB := n3_; clear n0_ n1_ n2_ n3_; clear hb ho38; obtain ⟨Ao39, co39, eo39⟩ := Kd.R_slice HO1089.out; subst eo39; obtain ⟨Ao40, co40, eo40⟩ := Kd.R_slice HO1093.out; subst eo40) | ((with_reducible refine gate_callee (f := 104) rfl ?_); refine goesL_ (some 40) rfl rfl Try.func104 (by kernel_rfl) rfl #[.slice Ao39 y1087.length co39, .slice Ao40 y1091.length co40] rfl (by (try simp only [List.map_toArray, List.map_cons, List.map_nil]); first | done | rfl | (simp only [List.length_drop, List.length_take]; rfl)) ?_; (with_reducible refine (sealringref32_some.calls k _ _ y1087 _ _ y1091 t1094 _ ?side1 ?side2 ?side3 ?side4 A32.out).mono ?_); (case side1 => repeat (first | exact (Kd.R_reads' HO1089.out).2.2 | (with_reducible refine Kd.C_alloc ?_ _) | (with_reducible refine Kd.C_drewN ?_ _) | (with_reducible refine Kd.C_drew ?_))); (case side2 => exact (Kd.R_reads' HO1089.out).2.1); (case side3 => repeat (first | exact (Kd.R_reads' HO1093.out).2.2 | (with_reducible refine Kd.C_alloc ?_ _) | (with_reducible refine Kd.C_drewN ?_ _) | (with_reducible refine Kd.C_drew ?_))); (case side4 => exact (Kd.R_reads' HO1093.out).2.1); rintro e w41 ⟨v1095, rfl, ho0, hb⟩; refine ⟨_, rfl, ?_⟩; have n0_ := Aside0.mk (Kd.R_below (by (with_reducible repeat (first | apply Kd.R_alloc | apply Kd.R_drewN | apply Kd.R_drew)); exact HO1071.out) hb); have n1_ := Aside0.mk (Kd.R_elder' (by (with_reducible repeat (first | apply Kd.R_alloc | apply Kd.R_drewN | apply Kd.R_drew)); exact HO1089.out) (Kd.R_base ho0) hb); have n2_ := Aside0.mk (Kd.R_below (by (with_reducible repeat (first | apply Kd.R_alloc | apply Kd.R_drewN | apply Kd.R_drew)); exact HO1093.out) hb); have n3_ := Aside0.mk (Kd.R_lower (Kd.R_new' ho0 (Kd.R_lt (by (with_reducible repeat (first | apply Kd.R_alloc | apply Kd.R_drewN | apply Kd.R_drew)); exact HO1089.out))) (below_size (by repeat (first | (with_reducible first | exact HB.out | apply below_alloc | apply pw_below_drewN | apply below_drew1) | exact HB.out)))); have n4_ := Aside0.mk (below_step (by repeat (first | (with_reducible first | exact HB.out | apply below_alloc | apply pw_below_drewN | apply below_drew1) | exact HB.out)) hb); clear HO1071; clear HO1089; clear HO1093; clear HB; have HO1071 := n0_; have HO1089 := n1_; have HO1093 := n2_; have HO1096 := n3_; have HB := n4_; clear n0_ n1_ n2_ n3_ n4_; (try clear hb); (try clear hb2); (try clear hk); (try clear hi); (try clear ho0)))
            go_ret2
            exact ⟨_, by first | rfl | (simp [errW_none, errW_some] <;> rfl) | (simp [*, errW_none, errW_some] <;> rfl), by (with_reducible repeat (first | apply Kd.R_alloc | apply Kd.R_drewN | apply Kd.R_drew)); exact Kd.R_mono HO1096.out (fun _ hk => trivial), by repeat (first | (with_reducible first | exact HB.out | apply below_alloc | apply pw_below_drewN | apply below_drew1) | exact HB.out)⟩
          · rw [if_neg c31] at H
            exact absurd H (by simp)
        · rw [if_neg c30] at H
          have c30b0 : (a1.toList == ([109, 46, 114, 111, 111, 109, 46, 106, 111, 105, 110, 95, 114, 117, 108, 101, 115] : List UInt8)) = false := beq_eq_false_iff_ne.mpr c30
          have c30b1 : (a1.toList != ([109, 46, 114, 111, 111, 109, 46, 106, 111, 105, 110, 95, 114, 117, 108, 101, 115] : List UInt8)) = true := bne_iff_ne.mpr c30
          by_cases c42 : a1.toList = ([109, 46, 114, 111, 111, 109, 46, 112, 111, 119, 101, 114, 95, 108, 101, 118, 101, 108, 115] : List UInt8)
          · rw [if_pos c42] at H
            have c42b0 : (a1.toList == ([109, 46, 114, 111, 111, 109, 46, 112, 111, 119, 101, 114, 95, 108, 101, 118, 101, 108, 115] : List UInt8)) = true := beq_iff_eq.mpr c42
            have c42b1 : (a1.toList != ([109, 46, 114, 111, 111, 109, 46, 112, 111, 119, 101, 114, 95, 108, 101, 118, 101, 108, 115] : List UInt8)) = false := bne_eq_false_iff_eq.mpr c42
            clear c42
            obtain ⟨y1097, hy1097⟩ : ∃ y_ : List ByteArray, y_ = (([(⟨#[98, 97, 110]⟩ : ByteArray), (⟨#[101, 118, 101, 110, 116, 115]⟩ : ByteArray), (⟨#[101, 118, 101, 110, 116, 115, 95, 100, 101, 102, 97, 117, 108, 116]⟩ : ByteArray), (⟨#[105, 110, 118, 105, 116, 101]⟩ : ByteArray), (⟨#[107, 105, 99, 107]⟩ : ByteArray), (⟨#[114, 101, 100, 97, 99, 116]⟩ : ByteArray), (⟨#[115, 116, 97, 116, 101, 95, 100, 101, 102, 97, 117, 108, 116]⟩ : ByteArray), (⟨#[117, 115, 101, 114, 115]⟩ : ByteArray), (⟨#[117, 115, 101, 114, 115, 95, 100, 101, 102, 97, 117, 108, 116]⟩ : ByteArray)] : List ByteArray)) := ⟨_, rfl⟩
            replace H : (if 6 < (t1068.length : Int) then ((sealringref32_some.f k y1097 (([true, true, true, rdOf false t1068 6, true, true, true, true, true] : List Bool))).bind fun t1104 => (some (t1104, false))) else (none)) = some (r1, r2) := by first | (rw [hy1097]; with_reducible exact H) | (have H2_ := (Option.bind_some _ _).symm.trans H; rw [hy1097]; with_reducible exact H2_) | (have H2_ := (Option.bind_some _ _).symm.trans H; with_reducible exact H2_) | with_reducible exact H | (rw [hy1097]; exact H) | exact H
            have Ny1097 := Aside0.mk hy1097
            clear hy1097
            by_cases c43 : 6 < (t1068.length : Int)
            · rw [if_pos c43] at H
              have c43b0 : decide (6 < (t1068.length : Int)) = true := decide_eq_true c43
              have c43b1 : decide (6 < t1068.length) = true := decide_eq_true (by omega)
              clear c43
              obtain ⟨y1101, hy1101⟩ : ∃ y_ : List Bool, y_ = (([true, true, true, rdOf false t1068 6, true, true, true, true, true] : List Bool)) := ⟨_, rfl⟩
              replace H : ((sealringref32_some.f k y1097 y1101).bind fun t1104 => (some (t1104, false))) = some (r1, r2) := by first | (rw [hy1101]; with_reducible exact H) | (have H2_ := (Option.bind_some _ _).symm.trans H; rw [hy1101]; with_reducible exact H2_) | (have H2_ := (Option.bind_some _ _).symm.trans H; with_reducible exact H2_) | with_reducible exact H | (rw [hy1101]; exact H) | exact H
              have Ny1101 := Aside0.mk hy1101
              clear hy1101
              replace H := Option.bind_eq_some_iff.mp H
              obtain ⟨t1104, A440, H⟩ := H
              replace H : (some (t1104, false)) = some (r1, r2) := H
              have A44 := Aside0.mk A440
              clear A440
              simp only [Option.some.injEq, Prod.mk.injEq] at H
              obtain ⟨rfl, rfl⟩ := H
              go_enter Try.func56, Try.ntmps56
              go_wp2_with (first | ((with_reducible refine gate_callee (f := 102) rfl ?_); refine goesL_ (some 10) rfl rfl Try.func102 (by kernel_rfl) rfl #[.int .i64 a0] rfl (by (try simp only [List.map_toArray, List.map_cons, List.map_nil]); first | done | rfl | (simp only [List.length_drop, List.length_take]; rfl)) ?_; (with_reducible refine (sealringref26_Of.calls a0 t1068 true _ A3.out).mono ?_); rintro e w45 ⟨v1070, rfl, ho0, hb⟩; refine ⟨_, rfl, ?_⟩; have n0_ := Aside0.mk (Kd.R_lower ho0 (below_size (by repeat (first | (with_reducible first | exact HB.out | apply below_alloc | apply pw_below_drewN | apply below_drew1) | exact HB.out)))); have n1_ := Aside0.mk (below_step (by repeat (first | (with_reducible first | exact HB.out | apply below_alloc | apply pw_below_drewN | apply below_drew1) | exact HB.out)) hb); clear HB; have HO1071 := n0_; have HB := n1_; clear n0_ n1_; (try clear hb); (try clear hb2); (try clear hk); (try clear hi); (try clear ho0)) | ((with_reducible refine gate_dst (N := 43) rfl ?_); refine Kd.R_lit Kd.string _ 9 ?hg (N := 43) ?hd (xs := ([(⟨#[98, 97, 110]⟩ : ByteArray), (⟨#[101, 118, 101, 110, 116, 115]⟩ : ByteArray), (⟨#[101, 118, 101, 110, 116, 115, 95, 100, 101, 102, 97, 117, 108, 116]⟩ : ByteArray), (⟨#[105, 110, 118, 105, 116, 101]⟩ : ByteArray), (⟨#[107, 105, 99, 107]⟩ : ByteArray), (⟨#[114, 101, 100, 97, 99, 116]⟩ : ByteArray), (⟨#[115, 116, 97, 116, 101, 95, 100, 101, 102, 97, 117, 108, 116]⟩ : ByteArray), (⟨#[117, 115, 101, 114, 115]⟩ : ByteArray), (⟨#[117, 115, 101, 114, 115, 95, 100, 101, 102, 97, 117, 108, 116]⟩ : ByteArray)] : List ByteArray)) (inner := [.string (⟨#[98, 97, 110]⟩ : ByteArray), .string (⟨#[101, 118, 101, 110, 116, 115]⟩ : ByteArray), .string (⟨#[101, 118, 101, 110, 116, 115, 95, 100, 101, 102, 97, 117, 108, 116]⟩ : ByteArray), .string (⟨#[105, 110, 118, 105, 116, 101]⟩ : ByteArray), .string (⟨#[107, 105, 99, 107]⟩ : ByteArray), .string (⟨#[114, 101, 100, 97, 99, 116]⟩ : ByteArray), .string (⟨#[115, 116, 97, 116, 101, 95, 100, 101, 102, 97, 117, 108, 116]⟩ : ByteArray), .string (⟨#[117, 115, 101, 114, 115]⟩ : ByteArray), .string (⟨#[117, 115, 101, 114, 115, 95, 100, 101, 102, 97, 117, 108, 116]⟩ : ByteArray)]) (ok := fun _ => True) (okp := fun _ => True) ?hr ?hp (fun _ hk => hk) trivial (Below.refl _ _) (Nat.le_refl _) (by simp) ?_; (case hd => rfl); (case hg => rfl); (case hr => first | (go_simp; done) | (go_simp; rfl)); (case hp => exact (Reps.one (show Kd.M Kd.string _ _ _ (⟨#[98, 97, 110]⟩ : ByteArray) [.string (⟨#[98, 97, 110]⟩ : ByteArray)] from rfl) (Reps.one (show Kd.M Kd.string _ _ _ (⟨#[101, 118, 101, 110, 116, 115]⟩ : ByteArray) [.string (⟨#[101, 118, 101, 110, 116, 115]⟩ : ByteArray)] from rfl) (Reps.one (show Kd.M Kd.string _ _ _ (⟨#[101, 118, 101, 110, 116, 115, 95, 100, 101, 102, 97, 117, 108, 116]⟩ : ByteArray) [.string (⟨#[101, 118, 101, 110, 116, 115, 95, 100, 101, 102, 97, 117, 108, 116]⟩ : ByteArray)] from rfl) (Reps.one (show Kd.M Kd.string _ _ _ (⟨#[105, 110, 118, 105, 116, 101]⟩ : ByteArray) [.string (⟨#[105, 110, 118, 105, 116, 101]⟩ : ByteArray)] from rfl) (Reps.one (show Kd.M Kd.string _ _ _ (⟨#[107, 105, 99, 107]⟩ : ByteArray) [.string (⟨#[107, 105, 99, 107]⟩ : ByteArray)] from rfl) (Reps.one (show Kd.M Kd.string _ _ _ (⟨#[114, 101, 100, 97, 99, 116]⟩ : ByteArray) [.string (⟨#[114, 101, 100, 97, 99, 116]⟩ : ByteArray)] from rfl) (Reps.one (show Kd.M Kd.string _ _ _ (⟨#[115, 116, 97, 116, 101, 95, 100, 101, 102, 97, 117, 108, 116]⟩ : ByteArray) [.string (⟨#[115, 116, 97, 116, 101, 95, 100, 101, 102, 97, 117, 108, 116]⟩ : ByteArray)] from rfl) (Reps.one (show Kd.M Kd.string _ _ _ (⟨#[117, 115, 101, 114, 115]⟩ : ByteArray) [.string (⟨#[117, 115, 101, 114, 115]⟩ : ByteArray)] from rfl) (Reps.one (show Kd.M Kd.string _ _ _ (⟨#[117, 115, 101, 114, 115, 95, 100, 101, 102, 97, 117, 108, 116]⟩ : ByteArray) [.string (⟨#[117, 115, 101, 114, 115, 95, 100, 101, 102, 97, 117, 108, 116]⟩ : ByteArray)] from rfl) (Reps.none _ _))))))))))); intro v1098 w46 ho47 hb hg_ hnew_; clear hg_ hnew_; (first | rw [← Ny1097.out] at ho47 | (simp only [Int.reduceToNat] at ho47; rw [← Ny1097.out] at ho47)); have n0_ := Aside0.mk (Kd.R_below (by (with_reducible repeat (first | apply Kd.R_alloc | apply Kd.R_drewN | apply Kd.R_drew)); exact HO1071.out) hb); have n1_ := Aside0.mk (Kd.R_lower ho47 (below_size (by repeat (first | (with_reducible first | exact HB.out | apply below_alloc | apply pw_below_drewN | apply below_drew1) | exact HB.out)))); have n2_ := Aside0.mk (below_step (by repeat (first | (with_reducible first | exact HB.out | apply below_alloc | apply pw_below_drewN | apply below_drew1) | exact HB.out)) hb); clear HO1071; clear HB; have HO1071 := n0_; have HO1099 := n1_; have HB := n2_; clear n0_ n1_ n2_; clear hb ho47; obtain ⟨Ao48, co48, eo48⟩ := Kd.R_slice HO1071.out; subst eo48; have p1100 : 0 ≤ (6 : Int) := (by omega); have q1100 : 6 < (t1068.length : Int) := of_decide_eq_true (by first | (with_reducible assumption) | assumption); obtain ⟨ad1100, e1100, hx1100_0⟩ := Kd.at_bool (Kd.R_reads' HO1071.out).2.2 6 p1100 q1100; cases e1100; (try simp only [show (6 : Int).toNat = 6 from rfl, Nat.reduceMul, Nat.reduceEqDiff, Go.Addr.add, ↓reduceIte] at hx1100_0); have qi1100 : (6 < t1068.length) = True := eq_true (by omega); (try rw [show ((6 : Int)).toNat = 6 from rfl] at hx1100_0); replace p1100 := eq_true p1100; replace q1100 := eq_true q1100) | ((with_reducible refine gate_dst (N := 47) rfl ?_); refine Kd.R_lit Kd.bool _ 4 ?hg (N := 47) ?hd (xs := ([true, true, true, rdOf false t1068 6, true, true, true, true, true] : List Bool)) (inner := [.bool true, .bool true, .bool true, .bool (rdOf false t1068 6), .bool true, .bool true, .bool true, .bool true, .bool true]) (ok := fun _ => True) (okp := fun _ => True) ?hr ?hp (fun _ hk => hk) trivial (Below.refl _ _) (Nat.le_refl _) (by simp) ?_; (case hd => rfl); (case hg => rfl); (case hr => first | (go_simp; done) | (go_simp; rfl)); (case hp => exact (Reps.one (show Kd.M Kd.bool _ _ _ true [.bool true] from rfl) (Reps.one (show Kd.M Kd.bool _ _ _ true [.bool true] from rfl) (Reps.one (show Kd.M Kd.bool _ _ _ true [.bool true] from rfl) (Reps.one (show Kd.M Kd.bool _ _ _ (rdOf false t1068 6) [.bool (rdOf false t1068 6)] from rfl) (Reps.one (show Kd.M Kd.bool _ _ _ true [.bool true] from rfl) (Reps.one (show Kd.M Kd.bool _ _ _ true [.bool true] from rfl) (Reps.one (show Kd.M Kd.bool _ _ _ true [.bool true] from rfl) (Reps.one (show Kd.M Kd.bool _ _ _ true [.bool true] from rfl) (Reps.one (show Kd.M Kd.bool _ _ _ true [.bool true] from rfl) (Reps.none _ _))))))))))); intro v1102 w49 ho50 hb hg_ hnew_; clear hg_ hnew_; (first | rw [← Ny1101.out] at ho50 | (simp only [Int.reduceToNat] at ho50; rw [← Ny1101.out] at ho50)); have n0_ := Aside0.mk (Kd.R_elder' (by (with_reducible repeat (first | apply Kd.R_alloc | apply Kd.R_drewN | apply Kd.R_drew)); exact HO1071.out) (Kd.R_base ho50) hb); have n1_ := Aside0.mk (Kd.R_below (by (with_reducible repeat (first | apply Kd.R_alloc | apply Kd.R_drewN | apply Kd.R_drew)); exact HO1099.out) hb); have n2_ := Aside0.mk (Kd.R_lower (Kd.R_new' ho50 (Kd.R_lt (by (with_reducible repeat (first | apply Kd.R_alloc | apply Kd.R_drewN | apply Kd.R_drew)); exact HO1071.out))) (below_size (by repeat (first | (with_reducible first | exact HB.out | apply below_alloc | apply pw_below_drewN | apply below_drew1) | exact HB.out)))); have n3_ := Aside0.mk (below_step (by repeat (first | (with_reducible first | exact HB.out | apply below_alloc | apply pw_below_drewN | apply below_drew1) | exact HB.out)) hb); clear HO1071; clear HO1099; clear HB; have HO1071 := n0_; have HO1099 := n1_; have HO1103 := n2_; have HB := n3_; clear n0_ n1_ n2_ n3_; clear hb ho50; obtain ⟨Ao51, co51, eo51⟩ := Kd.R_slice HO1099.out; subst eo51; obtain ⟨Ao52, co52, eo52⟩ := Kd.R_slice HO1103.out; subst eo52) | ((with_reducible refine gate_callee (f := 104) rfl ?_); refine goesL_ (some 48) rfl rfl Try.func104 (by kernel_rfl) rfl #[.slice Ao51 y1097.length co51, .slice Ao52 y1101.length co52] rfl (by (try simp only [List.map_toArray, List.map_cons, List.map_nil]); first | done | rfl | (simp only [List.length_drop, List.length_take]; rfl)) ?_; (with_reducible refine (sealringref32_some.calls k _ _ y1097 _ _ y1101 t1104 _ ?side1 ?side2 ?side3 ?side4 A44.out).mono ?_); (case side1 => repeat (first | exact (Kd.R_reads' HO1099.out).2.2 | (with_reducible refine Kd.C_alloc ?_ _) | (with_reducible refine Kd.C_drewN ?_ _) | (with_reducible refine Kd.C_drew ?_))); (case side2 => exact (Kd.R_reads' HO1099.out).2.1); (case side3 => repeat (first | exact (Kd.R_reads' HO1103.out).2.2 | (with_reducible refine Kd.C_alloc ?_ _) | (with_reducible refine Kd.C_drewN ?_ _) | (with_reducible refine Kd.C_drew ?_))); (case side4 => exact (Kd.R_reads' HO1103.out).2.1); rintro e w53 ⟨v1105, rfl, ho0, hb⟩; refine ⟨_, rfl, ?_⟩; have n0_ := Aside0.mk (Kd.R_below (by (with_reducible repeat (first | apply Kd.R_alloc | apply Kd.R_drewN | apply Kd.R_drew)); exact HO1071.out) hb); have n1_ := Aside0.mk (Kd.R_elder' (by (with_reducible repeat (first | apply Kd.R_alloc | apply Kd.R_drewN | apply Kd.R_drew)); exact HO1099.out) (Kd.R_base ho0) hb); have n2_ := Aside0.mk (Kd.R_below (by (with_reducible repeat (first | apply Kd.R_alloc | apply Kd.R_drewN | apply Kd.R_drew)); exact HO1103.out) hb); have n3_ := Aside0.mk (Kd.R_lower (Kd.R_new' ho0 (Kd.R_lt (by (with_reducible repeat (first | apply Kd.R_alloc | apply Kd.R_drewN | apply Kd.R_drew)); exact HO1099.out))) (below_size (by repeat (first | (with_reducible first | exact HB.out | apply below_alloc | apply pw_below_drewN | apply below_drew1) | exact HB.out)))); have n4_ := Aside0.mk (below_step (by repeat (first | (with_reducible first | exact HB.out | apply below_alloc | apply pw_below_drewN | apply below_drew1) | exact HB.out)) hb); clear HO1071; clear HO1099; clear HO1103; clear HB; have HO1071 := n0_; have HO1099 := n1_; have HO1103 := n2_; have HO1106 := n3_; have HB := n4_; clear n0_ n1_ n2_ n3_ n4_; (try clear hb); (try clear hb2); (try clear hk); (try clear hi); (try clear ho0)))
              go_ret2
              exact ⟨_, by first | rfl | (simp [errW_none, errW_some] <;> rfl) | (simp [*, errW_none, errW_some] <;> rfl), by (with_reducible repeat (first | apply Kd.R_alloc | apply Kd.R_drewN | apply Kd.R_drew)); exact Kd.R_mono HO1106.out (fun _ hk => trivial), by repeat (first | (with_reducible first | exact HB.out | apply below_alloc | apply pw_below_drewN | apply below_drew1) | exact HB.out)⟩
            · rw [if_neg c43] at H
              exact absurd H (by simp)
          · rw [if_neg c42] at H
            have c42b0 : (a1.toList == ([109, 46, 114, 111, 111, 109, 46, 112, 111, 119, 101, 114, 95, 108, 101, 118, 101, 108, 115] : List UInt8)) = false := beq_eq_false_iff_ne.mpr c42
            have c42b1 : (a1.toList != ([109, 46, 114, 111, 111, 109, 46, 112, 111, 119, 101, 114, 95, 108, 101, 118, 101, 108, 115] : List UInt8)) = true := bne_iff_ne.mpr c42
            by_cases c54 : a1.toList = ([109, 46, 114, 111, 111, 109, 46, 97, 108, 105, 97, 115, 101, 115] : List UInt8)
            · rw [if_pos c54] at H
              have c54b0 : (a1.toList == ([109, 46, 114, 111, 111, 109, 46, 97, 108, 105, 97, 115, 101, 115] : List UInt8)) = true := beq_iff_eq.mpr c54
              have c54b1 : (a1.toList != ([109, 46, 114, 111, 111, 109, 46, 97, 108, 105, 97, 115, 101, 115] : List UInt8)) = false := bne_eq_false_iff_eq.mpr c54
              clear c54
              obtain ⟨y1107, hy1107⟩ : ∃ y_ : List ByteArray, y_ = (([(⟨#[97, 108, 105, 97, 115, 101, 115]⟩ : ByteArray)] : List ByteArray)) := ⟨_, rfl⟩
              replace H : (if 3 < (t1068.length : Int) then ((sealringref32_some.f k y1107 (([rdOf false t1068 3] : List Bool))).bind fun t1114 => (some (t1114, false))) else (none)) = some (r1, r2) := by first | (rw [hy1107]; with_reducible exact H) | (have H2_ := (Option.bind_some _ _).symm.trans H; rw [hy1107]; with_reducible exact H2_) | (have H2_ := (Option.bind_some _ _).symm.trans H; with_reducible exact H2_) | with_reducible exact H | (rw [hy1107]; exact H) | exact H
              have Ny1107 := Aside0.mk hy1107
              clear hy1107
              by_cases c55 : 3 < (t1068.length : Int)
              · rw [if_pos c55] at H
                have c55b0 : decide (3 < (t1068.length : Int)) = true := decide_eq_true c55
                have c55b1 : decide (3 < t1068.length) = true := decide_eq_true (by omega)
                clear c55
                obtain ⟨y1111, hy1111⟩ : ∃ y_ : List Bool, y_ = (([rdOf false t1068 3] : List Bool)) := ⟨_, rfl⟩
                replace H : ((sealringref32_some.f k y1107 y1111).bind fun t1114 => (some (t1114, false))) = some (r1, r2) := by first | (rw [hy1111]; with_reducible exact H) | (have H2_ := (Option.bind_some _ _).symm.trans H; rw [hy1111]; with_reducible exact H2_) | (have H2_ := (Option.bind_some _ _).symm.trans H; with_reducible exact H2_) | with_reducible exact H | (rw [hy1111]; exact H) | exact H
                have Ny1111 := Aside0.mk hy1111
                clear hy1111
                replace H := Option.bind_eq_some_iff.mp H
                obtain ⟨t1114, A560, H⟩ := H
                replace H : (some (t1114, false)) = some (r1, r2) := H
                have A56 := Aside0.mk A560
                clear A560
                simp only [Option.some.injEq, Prod.mk.injEq] at H
                obtain ⟨rfl, rfl⟩ := H
                go_enter Try.func56, Try.ntmps56
                go_wp2_with (first | ((with_reducible refine gate_callee (f := 102) rfl ?_); refine goesL_ (some 10) rfl rfl Try.func102 (by kernel_rfl) rfl #[.int .i64 a0] rfl (by (try simp only [List.map_toArray, List.map_cons, List.map_nil]); first | done | rfl | (simp only [List.length_drop, List.length_take]; rfl)) ?_; (with_reducible refine (sealringref26_Of.calls a0 t1068 true _ A3.out).mono ?_); rintro e w57 ⟨v1070, rfl, ho0, hb⟩; refine ⟨_, rfl, ?_⟩; have n0_ := Aside0.mk (Kd.R_lower ho0 (below_size (by repeat (first | (with_reducible first | exact HB.out | apply below_alloc | apply pw_below_drewN | apply below_drew1) | exact HB.out)))); have n1_ := Aside0.mk (below_step (by repeat (first | (with_reducible first | exact HB.out | apply below_alloc | apply pw_below_drewN | apply below_drew1) | exact HB.out)) hb); clear HB; have HO1071 := n0_; have HB := n1_; clear n0_ n1_; (try clear hb); (try clear hb2); (try clear hk); (try clear hi); (try clear ho0)) | ((with_reducible refine gate_dst (N := 51) rfl ?_); refine Kd.R_lit Kd.string _ 9 ?hg (N := 51) ?hd (xs := ([(⟨#[97, 108, 105, 97, 115, 101, 115]⟩ : ByteArray)] : List ByteArray)) (inner := [.string (⟨#[97, 108, 105, 97, 115, 101, 115]⟩ : ByteArray)]) (ok := fun _ => True) (okp := fun _ => True) ?hr ?hp (fun _ hk => hk) trivial (Below.refl _ _) (Nat.le_refl _) (by simp) ?_; (case hd => rfl); (case hg => rfl); (case hr => first | (go_simp; done) | (go_simp; rfl)); (case hp => exact (Reps.one (show Kd.M Kd.string _ _ _ (⟨#[97, 108, 105, 97, 115, 101, 115]⟩ : ByteArray) [.string (⟨#[97, 108, 105, 97, 115, 101, 115]⟩ : ByteArray)] from rfl) (Reps.none _ _))); intro v1108 w58 ho59 hb hg_ hnew_; clear hg_ hnew_; (first | rw [← Ny1107.out] at ho59 | (simp only [Int.reduceToNat] at ho59; rw [← Ny1107.out] at ho59)); have n0_ := Aside0.mk (Kd.R_below (by (with_reducible repeat (first | apply Kd.R_alloc | apply Kd.R_drewN | apply Kd.R_drew)); exact HO1071.out) hb); have n1_ := Aside0.mk (Kd.R_lower ho59 (below_size (by repeat (first | (with_reducible first | exact HB.out | apply below_alloc | apply pw_below_drewN | apply below_drew1) | exact HB.out)))); have n2_ := Aside0.mk (below_step (by repeat (first | (with_reducible first | exact HB.out | apply below_alloc | apply pw_below_drewN | apply below_drew1) | exact HB.out)) hb); clear HO1071; clear HB; have HO1071 := n0_; have HO1109 := n1_; have HB := n2_; clear n0_ n1_ n2_; clear hb ho59; obtain ⟨Ao60, co60, eo60⟩ := Kd.R_slice HO1071.out; subst eo60; have p1110 : 0 ≤ (3 : Int) := (by omega); have q1110 : 3 < (t1068.length : Int) := of_decide_eq_true (by first | (with_reducible assumption) | assumption); obtain ⟨ad1110, e1110, hx1110_0⟩ := Kd.at_bool (Kd.R_reads' HO1071.out).2.2 3 p1110 q1110; cases e1110; (try simp only [show (3 : Int).toNat = 3 from rfl, Nat.reduceMul, Nat.reduceEqDiff, Go.Addr.add, ↓reduceIte] at hx1110_0); have qi1110 : (3 < t1068.length) = True := eq_true (by omega); (try rw [show ((3 : Int)).toNat = 3 from rfl] at hx1110_0); replace p1110 := eq_true p1110; replace q1110 := eq_true q1110) | ((with_reducible refine gate_dst (N := 55) rfl ?_); refine Kd.R_lit Kd.bool _ 4 ?hg (N := 55) ?hd (xs := ([rdOf false t1068 3] : List Bool)) (inner := [.bool (rdOf false t1068 3)]) (ok := fun _ => True) (okp := fun _ => True) ?hr ?hp (fun _ hk => hk) trivial (Below.refl _ _) (Nat.le_refl _) (by simp) ?_; (case hd => rfl); (case hg => rfl); (case hr => first | (go_simp; done) | (go_simp; rfl)); (case hp => exact (Reps.one (show Kd.M Kd.bool _ _ _ (rdOf false t1068 3) [.bool (rdOf false t1068 3)] from rfl) (Reps.none _ _))); intro v1112 w61 ho62 hb hg_ hnew_; clear hg_ hnew_; (first | rw [← Ny1111.out] at ho62 | (simp only [Int.reduceToNat] at ho62; rw [← Ny1111.out] at ho62)); have n0_ := Aside0.mk (Kd.R_elder' (by (with_reducible repeat (first | apply Kd.R_alloc | apply Kd.R_drewN | apply Kd.R_drew)); exact HO1071.out) (Kd.R_base ho62) hb); have n1_ := Aside0.mk (Kd.R_below (by (with_reducible repeat (first | apply Kd.R_alloc | apply Kd.R_drewN | apply Kd.R_drew)); exact HO1109.out) hb); have n2_ := Aside0.mk (Kd.R_lower (Kd.R_new' ho62 (Kd.R_lt (by (with_reducible repeat (first | apply Kd.R_alloc | apply Kd.R_drewN | apply Kd.R_drew)); exact HO1071.out))) (below_size (by repeat (first | (with_reducible first | exact HB.out | apply below_alloc | apply pw_below_drewN | apply below_drew1) | exact HB.out)))); have n3_ := Aside0.mk (below_step (by repeat (first | (with_reducible first | exact HB.out | apply below_alloc | apply pw_below_drewN | apply below_drew1) | exact HB.out)) hb); clear HO1071; clear HO1109; clear HB; have HO1071 := n0_; have HO1109 := n1_; have HO1113 := n2_; have HB := n3_; clear n0_ n1_ n2_ n3_; clear hb ho62; obtain ⟨Ao63, co63, eo63⟩ := Kd.R_slice HO1109.out; subst eo63; obtain ⟨Ao64, co64, eo64⟩ := Kd.R_slice HO1113.out; subst eo64) | ((with_reducible refine gate_callee (f := 104) rfl ?_); refine goesL_ (some 56) rfl rfl Try.func104 (by kernel_rfl) rfl #[.slice Ao63 y1107.length co63, .slice Ao64 y1111.length co64] rfl (by (try simp only [List.map_toArray, List.map_cons, List.map_nil]); first | done | rfl | (simp only [List.length_drop, List.length_take]; rfl)) ?_; (with_reducible refine (sealringref32_some.calls k _ _ y1107 _ _ y1111 t1114 _ ?side1 ?side2 ?side3 ?side4 A56.out).mono ?_); (case side1 => repeat (first | exact (Kd.R_reads' HO1109.out).2.2 | (with_reducible refine Kd.C_alloc ?_ _) | (with_reducible refine Kd.C_drewN ?_ _) | (with_reducible refine Kd.C_drew ?_))); (case side2 => exact (Kd.R_reads' HO1109.out).2.1); (case side3 => repeat (first | exact (Kd.R_reads' HO1113.out).2.2 | (with_reducible refine Kd.C_alloc ?_ _) | (with_reducible refine Kd.C_drewN ?_ _) | (with_reducible refine Kd.C_drew ?_))); (case side4 => exact (Kd.R_reads' HO1113.out).2.1); rintro e w65 ⟨v1115, rfl, ho0, hb⟩; refine ⟨_, rfl, ?_⟩; have n0_ := Aside0.mk (Kd.R_below (by (with_reducible repeat (first | apply Kd.R_alloc | apply Kd.R_drewN | apply Kd.R_drew)); exact HO1071.out) hb); have n1_ := Aside0.mk (Kd.R_elder' (by (with_reducible repeat (first | apply Kd.R_alloc | apply Kd.R_drewN | apply Kd.R_drew)); exact HO1109.out) (Kd.R_base ho0) hb); have n2_ := Aside0.mk (Kd.R_below (by (with_reducible repeat (first | apply Kd.R_alloc | apply Kd.R_drewN | apply Kd.R_drew)); exact HO1113.out) hb); have n3_ := Aside0.mk (Kd.R_lower (Kd.R_new' ho0 (Kd.R_lt (by (with_reducible repeat (first | apply Kd.R_alloc | apply Kd.R_drewN | apply Kd.R_drew)); exact HO1109.out))) (below_size (by repeat (first | (with_reducible first | exact HB.out | apply below_alloc | apply pw_below_drewN | apply below_drew1) | exact HB.out)))); have n4_ := Aside0.mk (below_step (by repeat (first | (with_reducible first | exact HB.out | apply below_alloc | apply pw_below_drewN | apply below_drew1) | exact HB.out)) hb); clear HO1071; clear HO1109; clear HO1113; clear HB; have HO1071 := n0_; have HO1109 := n1_; have HO1113 := n2_; have HO1116 := n3_; have HB := n4_; clear n0_ n1_ n2_ n3_ n4_; (try clear hb); (try clear hb2); (try clear hk); (try clear hi); (try clear ho0)))
                go_ret2
                exact ⟨_, by first | rfl | (simp [errW_none, errW_some] <;> rfl) | (simp [*, errW_none, errW_some] <;> rfl), by (with_reducible repeat (first | apply Kd.R_alloc | apply Kd.R_drewN | apply Kd.R_drew)); exact Kd.R_mono HO1116.out (fun _ hk => trivial), by repeat (first | (with_reducible first | exact HB.out | apply below_alloc | apply pw_below_drewN | apply below_drew1) | exact HB.out)⟩
              · rw [if_neg c55] at H
                exact absurd H (by simp)
            · rw [if_neg c54] at H
              have c54b0 : (a1.toList == ([109, 46, 114, 111, 111, 109, 46, 97, 108, 105, 97, 115, 101, 115] : List UInt8)) = false := beq_eq_false_iff_ne.mpr c54
              have c54b1 : (a1.toList != ([109, 46, 114, 111, 111, 109, 46, 97, 108, 105, 97, 115, 101, 115] : List UInt8)) = true := bne_iff_ne.mpr c54
              by_cases c66 : a1.toList = ([109, 46, 114, 111, 111, 109, 46, 104, 105, 115, 116, 111, 114, 121, 95, 118, 105, 115, 105, 98, 105, 108, 105, 116, 121] : List UInt8)
              · rw [if_pos c66] at H
                have c66b0 : (a1.toList == ([109, 46, 114, 111, 111, 109, 46, 104, 105, 115, 116, 111, 114, 121, 95, 118, 105, 115, 105, 98, 105, 108, 105, 116, 121] : List UInt8)) = true := beq_iff_eq.mpr c66
                have c66b1 : (a1.toList != ([109, 46, 114, 111, 111, 109, 46, 104, 105, 115, 116, 111, 114, 121, 95, 118, 105, 115, 105, 98, 105, 108, 105, 116, 121] : List UInt8)) = false := bne_eq_false_iff_eq.mpr c66
                clear c66
                obtain ⟨y1117, hy1117⟩ : ∃ y_ : List ByteArray, y_ = (([(⟨#[104, 105, 115, 116, 111, 114, 121, 95, 118, 105, 115, 105, 98, 105, 108, 105, 116, 121]⟩ : ByteArray)] : List ByteArray)) := ⟨_, rfl⟩
                replace H : (some (y1117, false)) = some (r1, r2) := by first | (rw [hy1117]; with_reducible exact H) | (have H2_ := (Option.bind_some _ _).symm.trans H; rw [hy1117]; with_reducible exact H2_) | (have H2_ := (Option.bind_some _ _).symm.trans H; with_reducible exact H2_) | with_reducible exact H | (rw [hy1117]; exact H) | exact H
                have Ny1117 := Aside0.mk hy1117
                clear hy1117
                simp only [Option.some.injEq, Prod.mk.injEq] at H
                obtain ⟨rfl, rfl⟩ := H
                go_enter Try.func56, Try.ntmps56
                go_wp2_with (first | ((with_reducible refine gate_callee (f := 102) rfl ?_); refine goesL_ (some 10) rfl rfl Try.func102 (by kernel_rfl) rfl #[.int .i64 a0] rfl (by (try simp only [List.map_toArray, List.map_cons, List.map_nil]); first | done | rfl | (simp only [List.length_drop, List.length_take]; rfl)) ?_; (with_reducible refine (sealringref26_Of.calls a0 t1068 true _ A3.out).mono ?_); rintro e w67 ⟨v1070, rfl, ho0, hb⟩; refine ⟨_, rfl, ?_⟩; have n0_ := Aside0.mk (Kd.R_lower ho0 (below_size (by repeat (first | (with_reducible first | exact HB.out | apply below_alloc | apply pw_below_drewN | apply below_drew1) | exact HB.out)))); have n1_ := Aside0.mk (below_step (by repeat (first | (with_reducible first | exact HB.out | apply below_alloc | apply pw_below_drewN | apply below_drew1) | exact HB.out)) hb); clear HB; have HO1071 := n0_; have HB := n1_; clear n0_ n1_; (try clear hb); (try clear hb2); (try clear hk); (try clear hi); (try clear ho0)) | ((with_reducible refine gate_dst (N := 59) rfl ?_); refine Kd.R_lit Kd.string _ 9 ?hg (N := 59) ?hd (xs := ([(⟨#[104, 105, 115, 116, 111, 114, 121, 95, 118, 105, 115, 105, 98, 105, 108, 105, 116, 121]⟩ : ByteArray)] : List ByteArray)) (inner := [.string (⟨#[104, 105, 115, 116, 111, 114, 121, 95, 118, 105, 115, 105, 98, 105, 108, 105, 116, 121]⟩ : ByteArray)]) (ok := fun _ => True) (okp := fun _ => True) ?hr ?hp (fun _ hk => hk) trivial (Below.refl _ _) (Nat.le_refl _) (by simp) ?_; (case hd => rfl); (case hg => rfl); (case hr => first | (go_simp; done) | (go_simp; rfl)); (case hp => exact (Reps.one (show Kd.M Kd.string _ _ _ (⟨#[104, 105, 115, 116, 111, 114, 121, 95, 118, 105, 115, 105, 98, 105, 108, 105, 116, 121]⟩ : ByteArray) [.string (⟨#[104, 105, 115, 116, 111, 114, 121, 95, 118, 105, 115, 105, 98, 105, 108, 105, 116, 121]⟩ : ByteArray)] from rfl) (Reps.none _ _))); intro v1118 w68 ho69 hb hg_ hnew_; clear hg_ hnew_; (first | rw [← Ny1117.out] at ho69 | (simp only [Int.reduceToNat] at ho69; rw [← Ny1117.out] at ho69)); have n0_ := Aside0.mk (Kd.R_below (by (with_reducible repeat (first | apply Kd.R_alloc | apply Kd.R_drewN | apply Kd.R_drew)); exact HO1071.out) hb); have n1_ := Aside0.mk (Kd.R_lower ho69 (below_size (by repeat (first | (with_reducible first | exact HB.out | apply below_alloc | apply pw_below_drewN | apply below_drew1) | exact HB.out)))); have n2_ := Aside0.mk (below_step (by repeat (first | (with_reducible first | exact HB.out | apply below_alloc | apply pw_below_drewN | apply below_drew1) | exact HB.out)) hb); clear HO1071; clear HB; have HO1071 := n0_; have HO1119 := n1_; have HB := n2_; clear n0_ n1_ n2_; clear hb ho69))
                go_ret2
                exact ⟨_, by first | rfl | (simp [errW_none, errW_some] <;> rfl) | (simp [*, errW_none, errW_some] <;> rfl), by (with_reducible repeat (first | apply Kd.R_alloc | apply Kd.R_drewN | apply Kd.R_drew)); exact HO1119.out, by repeat (first | (with_reducible first | exact HB.out | apply below_alloc | apply pw_below_drewN | apply below_drew1) | exact HB.out)⟩
              · rw [if_neg c66] at H
                have c66b0 : (a1.toList == ([109, 46, 114, 111, 111, 109, 46, 104, 105, 115, 116, 111, 114, 121, 95, 118, 105, 115, 105, 98, 105, 108, 105, 116, 121] : List UInt8)) = false := beq_eq_false_iff_ne.mpr c66
                have c66b1 : (a1.toList != ([109, 46, 114, 111, 111, 109, 46, 104, 105, 115, 116, 111, 114, 121, 95, 118, 105, 115, 105, 98, 105, 108, 105, 116, 121] : List UInt8)) = true := bne_iff_ne.mpr c66
                by_cases c70 : a1.toList = ([109, 46, 114, 111, 111, 109, 46, 114, 101, 100, 97, 99, 116, 105, 111, 110] : List UInt8)
                · rw [if_pos c70] at H
                  have c70b0 : (a1.toList == ([109, 46, 114, 111, 111, 109, 46, 114, 101, 100, 97, 99, 116, 105, 111, 110] : List UInt8)) = true := beq_iff_eq.mpr c70
                  have c70b1 : (a1.toList != ([109, 46, 114, 111, 111, 109, 46, 114, 101, 100, 97, 99, 116, 105, 111, 110] : List UInt8)) = false := bne_eq_false_iff_eq.mpr c70
                  clear c70
                  obtain ⟨y1120, hy1120⟩ : ∃ y_ : List ByteArray, y_ = (([(⟨#[114, 101, 100, 97, 99, 116, 115]⟩ : ByteArray)] : List ByteArray)) := ⟨_, rfl⟩
                  replace H : (if 6 < (t1068.length : Int) then ((sealringref32_some.f k y1120 (([rdOf false t1068 6] : List Bool))).bind fun t1127 => (some (t1127, false))) else (none)) = some (r1, r2) := by first | (rw [hy1120]; with_reducible exact H) | (have H2_ := (Option.bind_some _ _).symm.trans H; rw [hy1120]; with_reducible exact H2_) | (have H2_ := (Option.bind_some _ _).symm.trans H; with_reducible exact H2_) | with_reducible exact H | (rw [hy1120]; exact H) | exact H
                  have Ny1120 := Aside0.mk hy1120
                  clear hy1120
                  by_cases c71 : 6 < (t1068.length : Int)
                  · rw [if_pos c71] at H
                    have c71b0 : decide (6 < (t1068.length : Int)) = true := decide_eq_true c71
                    have c71b1 : decide (6 < t1068.length) = true := decide_eq_true (by omega)
                    clear c71
                    obtain ⟨y1124, hy1124⟩ : ∃ y_ : List Bool, y_ = (([rdOf false t1068 6] : List Bool)) := ⟨_, rfl⟩
                    replace H : ((sealringref32_some.f k y1120 y1124).bind fun t1127 => (some (t1127, false))) = some (r1, r2) := by first | (rw [hy1124]; with_reducible exact H) | (have H2_ := (Option.bind_some _ _).symm.trans H; rw [hy1124]; with_reducible exact H2_) | (have H2_ := (Option.bind_some _ _).symm.trans H; with_reducible exact H2_) | with_reducible exact H | (rw [hy1124]; exact H) | exact H
                    have Ny1124 := Aside0.mk hy1124
                    clear hy1124
                    replace H := Option.bind_eq_some_iff.mp H
                    obtain ⟨t1127, A720, H⟩ := H
                    replace H : (some (t1127, false)) = some (r1, r2) := H
                    have A72 := Aside0.mk A720
                    clear A720
                    simp only [Option.some.injEq, Prod.mk.injEq] at H
                    obtain ⟨rfl, rfl⟩ := H
                    go_enter Try.func56, Try.ntmps56
                    go_wp2_with (first | ((with_reducible refine gate_callee (f := 102) rfl ?_); refine goesL_ (some 10) rfl rfl Try.func102 (by kernel_rfl) rfl #[.int .i64 a0] rfl (by (try simp only [List.map_toArray, List.map_cons, List.map_nil]); first | done | rfl | (simp only [List.length_drop, List.length_take]; rfl)) ?_; (with_reducible refine (sealringref26_Of.calls a0 t1068 true _ A3.out).mono ?_); rintro e w73 ⟨v1070, rfl, ho0, hb⟩; refine ⟨_, rfl, ?_⟩; have n0_ := Aside0.mk (Kd.R_lower ho0 (below_size (by repeat (first | (with_reducible first | exact HB.out | apply below_alloc | apply pw_below_drewN | apply below_drew1) | exact HB.out)))); have n1_ := Aside0.mk (below_step (by repeat (first | (with_reducible first | exact HB.out | apply below_alloc | apply pw_below_drewN | apply below_drew1) | exact HB.out)) hb); clear HB; have HO1071 := n0_; have HB := n1_; clear n0_ n1_; (try clear hb); (try clear hb2); (try clear hk); (try clear hi); (try clear ho0)) | ((with_reducible refine gate_dst (N := 62) rfl ?_); refine Kd.R_lit Kd.string _ 9 ?hg (N := 62) ?hd (xs := ([(⟨#[114, 101, 100, 97, 99, 116, 115]⟩ : ByteArray)] : List ByteArray)) (inner := [.string (⟨#[114, 101, 100, 97, 99, 116, 115]⟩ : ByteArray)]) (ok := fun _ => True) (okp := fun _ => True) ?hr ?hp (fun _ hk => hk) trivial (Below.refl _ _) (Nat.le_refl _) (by simp) ?_; (case hd => rfl); (case hg => rfl); (case hr => first | (go_simp; done) | (go_simp; rfl)); (case hp => exact (Reps.one (show Kd.M Kd.string _ _ _ (⟨#[114, 101, 100, 97, 99, 116, 115]⟩ : ByteArray) [.string (⟨#[114, 101, 100, 97, 99, 116, 115]⟩ : ByteArray)] from rfl) (Reps.none _ _))); intro v1121 w74 ho75 hb hg_ hnew_; clear hg_ hnew_; (first | rw [← Ny1120.out] at ho75 | (simp only [Int.reduceToNat] at ho75; rw [← Ny1120.out] at ho75)); have n0_ := Aside0.mk (Kd.R_below (by (with_reducible repeat (first | apply Kd.R_alloc | apply Kd.R_drewN | apply Kd.R_drew)); exact HO1071.out) hb); have n1_ := Aside0.mk (Kd.R_lower ho75 (below_size (by repeat (first | (with_reducible first | exact HB.out | apply below_alloc | apply pw_below_drewN | apply below_drew1) | exact HB.out)))); have n2_ := Aside0.mk (below_step (by repeat (first | (with_reducible first | exact HB.out | apply below_alloc | apply pw_below_drewN | apply below_drew1) | exact HB.out)) hb); clear HO1071; clear HB; have HO1071 := n0_; have HO1122 := n1_; have HB := n2_; clear n0_ n1_ n2_; clear hb ho75; obtain ⟨Ao76, co76, eo76⟩ := Kd.R_slice HO1071.out; subst eo76; have p1123 : 0 ≤ (6 : Int) := (by omega); have q1123 : 6 < (t1068.length : Int) := of_decide_eq_true (by first | (with_reducible assumption) | assumption); obtain ⟨ad1123, e1123, hx1123_0⟩ := Kd.at_bool (Kd.R_reads' HO1071.out).2.2 6 p1123 q1123; cases e1123; (try simp only [show (6 : Int).toNat = 6 from rfl, Nat.reduceMul, Nat.reduceEqDiff, Go.Addr.add, ↓reduceIte] at hx1123_0); have qi1123 : (6 < t1068.length) = True := eq_true (by omega); (try rw [show ((6 : Int)).toNat = 6 from rfl] at hx1123_0); replace p1123 := eq_true p1123; replace q1123 := eq_true q1123) | ((with_reducible refine gate_dst (N := 66) rfl ?_); refine Kd.R_lit Kd.bool _ 4 ?hg (N := 66) ?hd (xs := ([rdOf false t1068 6] : List Bool)) (inner := [.bool (rdOf false t1068 6)]) (ok := fun _ => True) (okp := fun _ => True) ?hr ?hp (fun _ hk => hk) trivial (Below.refl _ _) (Nat.le_refl _) (by simp) ?_; (case hd => rfl); (case hg => rfl); (case hr => first | (go_simp; done) | (go_simp; rfl)); (case hp => exact (Reps.one (show Kd.M Kd.bool _ _ _ (rdOf false t1068 6) [.bool (rdOf false t1068 6)] from rfl) (Reps.none _ _))); intro v1125 w77 ho78 hb hg_ hnew_; clear hg_ hnew_; (first | rw [← Ny1124.out] at ho78 | (simp only [Int.reduceToNat] at ho78; rw [← Ny1124.out] at ho78)); have n0_ := Aside0.mk (Kd.R_elder' (by (with_reducible repeat (first | apply Kd.R_alloc | apply Kd.R_drewN | apply Kd.R_drew)); exact HO1071.out) (Kd.R_base ho78) hb); have n1_ := Aside0.mk (Kd.R_below (by (with_reducible repeat (first | apply Kd.R_alloc | apply Kd.R_drewN | apply Kd.R_drew)); exact HO1122.out) hb); have n2_ := Aside0.mk (Kd.R_lower (Kd.R_new' ho78 (Kd.R_lt (by (with_reducible repeat (first | apply Kd.R_alloc | apply Kd.R_drewN | apply Kd.R_drew)); exact HO1071.out))) (below_size (by repeat (first | (with_reducible first | exact HB.out | apply below_alloc | apply pw_below_drewN | apply below_drew1) | exact HB.out)))); have n3_ := Aside0.mk (below_step (by repeat (first | (with_reducible first | exact HB.out | apply below_alloc | apply pw_below_drewN | apply below_drew1) | exact HB.out)) hb); clear HO1071; clear HO1122; clear HB; have HO1071 := n0_; have HO1122 := n1_; have HO1126 := n2_; have HB := n3_; clear n0_ n1_ n2_ n3_; clear hb ho78; obtain ⟨Ao79, co79, eo79⟩ := Kd.R_slice HO1122.out; subst eo79; obtain ⟨Ao80, co80, eo80⟩ := Kd.R_slice HO1126.out; subst eo80) | ((with_reducible refine gate_callee (f := 104) rfl ?_); refine goesL_ (some 67) rfl rfl Try.func104 (by kernel_rfl) rfl #[.slice Ao79 y1120.length co79, .slice Ao80 y1124.length co80] rfl (by (try simp only [List.map_toArray, List.map_cons, List.map_nil]); first | done | rfl | (simp only [List.length_drop, List.length_take]; rfl)) ?_; (with_reducible refine (sealringref32_some.calls k _ _ y1120 _ _ y1124 t1127 _ ?side1 ?side2 ?side3 ?side4 A72.out).mono ?_); (case side1 => repeat (first | exact (Kd.R_reads' HO1122.out).2.2 | (with_reducible refine Kd.C_alloc ?_ _) | (with_reducible refine Kd.C_drewN ?_ _) | (with_reducible refine Kd.C_drew ?_))); (case side2 => exact (Kd.R_reads' HO1122.out).2.1); (case side3 => repeat (first | exact (Kd.R_reads' HO1126.out).2.2 | (with_reducible refine Kd.C_alloc ?_ _) | (with_reducible refine Kd.C_drewN ?_ _) | (with_reducible refine Kd.C_drew ?_))); (case side4 => exact (Kd.R_reads' HO1126.out).2.1); rintro e w81 ⟨v1128, rfl, ho0, hb⟩; refine ⟨_, rfl, ?_⟩; have n0_ := Aside0.mk (Kd.R_below (by (with_reducible repeat (first | apply Kd.R_alloc | apply Kd.R_drewN | apply Kd.R_drew)); exact HO1071.out) hb); have n1_ := Aside0.mk (Kd.R_elder' (by (with_reducible repeat (first | apply Kd.R_alloc | apply Kd.R_drewN | apply Kd.R_drew)); exact HO1122.out) (Kd.R_base ho0) hb); have n2_ := Aside0.mk (Kd.R_below (by (with_reducible repeat (first | apply Kd.R_alloc | apply Kd.R_drewN | apply Kd.R_drew)); exact HO1126.out) hb); have n3_ := Aside0.mk (Kd.R_lower (Kd.R_new' ho0 (Kd.R_lt (by (with_reducible repeat (first | apply Kd.R_alloc | apply Kd.R_drewN | apply Kd.R_drew)); exact HO1122.out))) (below_size (by repeat (first | (with_reducible first | exact HB.out | apply below_alloc | apply pw_below_drewN | apply below_drew1) | exact HB.out)))); have n4_ := Aside0.mk (below_step (by repeat (first | (with_reducible first | exact HB.out | apply below_alloc | apply pw_below_drewN | apply below_drew1) | exact HB.out)) hb); clear HO1071; clear HO1122; clear HO1126; clear HB; have HO1071 := n0_; have HO1122 := n1_; have HO1126 := n2_; have HO1129 := n3_; have HB := n4_; clear n0_ n1_ n2_ n3_ n4_; (try clear hb); (try clear hb2); (try clear hk); (try clear hi); (try clear ho0)))
                    go_ret2
                    exact ⟨_, by first | rfl | (simp [errW_none, errW_some] <;> rfl) | (simp [*, errW_none, errW_some] <;> rfl), by (with_reducible repeat (first | apply Kd.R_alloc | apply Kd.R_drewN | apply Kd.R_drew)); exact Kd.R_mono HO1129.out (fun _ hk => trivial), by repeat (first | (with_reducible first | exact HB.out | apply below_alloc | apply pw_below_drewN | apply below_drew1) | exact HB.out)⟩
                  · rw [if_neg c71] at H
                    exact absurd H (by simp)
                · rw [if_neg c70] at H
                  have c70b0 : (a1.toList == ([109, 46, 114, 111, 111, 109, 46, 114, 101, 100, 97, 99, 116, 105, 111, 110] : List UInt8)) = false := beq_eq_false_iff_ne.mpr c70
                  have c70b1 : (a1.toList != ([109, 46, 114, 111, 111, 109, 46, 114, 101, 100, 97, 99, 116, 105, 111, 110] : List UInt8)) = true := bne_iff_ne.mpr c70
                  simp only [Option.some.injEq, Prod.mk.injEq] at H
                  obtain ⟨rfl, rfl⟩ := H
                  go_enter Try.func56, Try.ntmps56
                  go_wp2_with (first | ((with_reducible refine gate_callee (f := 102) rfl ?_); refine goesL_ (some 10) rfl rfl Try.func102 (by kernel_rfl) rfl #[.int .i64 a0] rfl (by (try simp only [List.map_toArray, List.map_cons, List.map_nil]); first | done | rfl | (simp only [List.length_drop, List.length_take]; rfl)) ?_; (with_reducible refine (sealringref26_Of.calls a0 t1068 true _ A3.out).mono ?_); rintro e w82 ⟨v1070, rfl, ho0, hb⟩; refine ⟨_, rfl, ?_⟩; have n0_ := Aside0.mk (Kd.R_lower ho0 (below_size (by repeat (first | (with_reducible first | exact HB.out | apply below_alloc | apply pw_below_drewN | apply below_drew1) | exact HB.out)))); have n1_ := Aside0.mk (below_step (by repeat (first | (with_reducible first | exact HB.out | apply below_alloc | apply pw_below_drewN | apply below_drew1) | exact HB.out)) hb); clear HB; have HO1071 := n0_; have HB := n1_; clear n0_ n1_; (try clear hb); (try clear hb2); (try clear hk); (try clear hi); (try clear ho0)))
                  go_ret2
                  exact ⟨_, by first | rfl | (simp [errW_none, errW_some] <;> rfl) | (simp [*, errW_none, errW_some] <;> rfl), by first | exact Kd.R_nil _ _ _ _ _ | exact Kd.N_nil _ _ _ _ _ | exact Kd.V_nil _ _ _ _ _ | exact Kd.Q_nil _ _ _ _ _ | exact Kd.S_nil _ _ _ _ _, by repeat (first | (with_reducible first | exact HB.out | apply below_alloc | apply pw_below_drewN | apply below_drew1) | exact HB.out)⟩
  · replace c4 := Bool.eq_false_iff.mpr c4
    subst c4
    have H1 : (some (([] : List ByteArray), false)) = some (r1, r2) := by rw [if_neg (show ¬ (false = true) by decide)] at H; exact H
    clear H
    have H := H1
    clear H1
    simp only [Option.some.injEq, Prod.mk.injEq] at H
    obtain ⟨rfl, rfl⟩ := H
    go_enter Try.func56, Try.ntmps56
    go_wp2_with (first | ((with_reducible refine gate_callee (f := 102) rfl ?_); refine goesL_ (some 10) rfl rfl Try.func102 (by kernel_rfl) rfl #[.int .i64 a0] rfl (by (try simp only [List.map_toArray, List.map_cons, List.map_nil]); first | done | rfl | (simp only [List.length_drop, List.length_take]; rfl)) ?_; (with_reducible refine (sealringref26_Of.calls a0 t1068 false _ A3.out).mono ?_); rintro e w83 ⟨v1070, rfl, ho0, hb⟩; refine ⟨_, rfl, ?_⟩; have n0_ := Aside0.mk (Kd.R_lower ho0 (below_size (by repeat (first | (with_reducible first | exact HB.out | apply below_alloc | apply pw_below_drewN | apply below_drew1) | exact HB.out)))); have n1_ := Aside0.mk (below_step (by repeat (first | (with_reducible first | exact HB.out | apply below_alloc | apply pw_below_drewN | apply below_drew1) | exact HB.out)) hb); clear HB; have HO1071 := n0_; have HB := n1_; clear n0_ n1_; (try clear hb); (try clear hb2); (try clear hk); (try clear hi); (try clear ho0)))
    go_ret2
    exact ⟨_, by first | rfl | (simp [errW_none, errW_some] <;> rfl) | (simp [*, errW_none, errW_some] <;> rfl), by first | exact Kd.R_nil _ _ _ _ _ | exact Kd.N_nil _ _ _ _ _ | exact Kd.V_nil _ _ _ _ _ | exact Kd.Q_nil _ _ _ _ _ | exact Kd.S_nil _ _ _ _ _, by repeat (first | (with_reducible first | exact HB.out | apply below_alloc | apply pw_below_drewN | apply below_drew1) | exact HB.out)⟩
end Go.Proofs.Ytbnmcnghmnhigaa.X
end
section
namespace Go.Proofs.Ytbnmcnghmnhigaa.X
open Go.RowKit Go.Proofs.YtbnmcnghmnhigaaW.PrintWords Go.Proofs.YtbnmcnghmnhigaaW.PrintLast Go.Proofs.YtbnmcnghmnhigaaW.PrintMore
set_option linter.unusedVariables false
set_option linter.unusedSimpArgs false
def version_Of.f (a0 : Int) : Option (Bool × Bool × Bool × Bool × Bool × Bool × Bool × Int) :=
  if a0 < 1 then some (false, false, false, false, false, false, false, 24) else if a0 > 11 then some (false, false, false, false, false, false, false, 24)
  else some (!decide (3 ≤ a0), !decide (3 ≤ a0), decide (4 ≤ a0), !decide (6 ≤ a0), decide (8 ≤ a0), decide (9 ≤ a0), decide (11 ≤ a0), 0)
set_option maxHeartbeats 800000 in
set_option maxRecDepth 100000 in
theorem version_Of.calls (a0 : Int) (r1 r2 r3 r4 r5 r6 r7 : Bool) (r8 : Int) (w : World) (h : version_Of.f a0 = some (r1, r2, r3, r4, r5, r6, r7, r8)) :
    Calls Try.prog 100 #[.int .i64 a0] w fun e w' => e = .returned (.tuple #[.agg #[.bool r1, .bool r2, .bool r3, .bool r4, .bool r5, .bool r6, .bool r7], .int .i64 r8]) ∧ Below w.heap.size w w' := by
  unfold version_Of.f at h
  by_cases c1 : a0 < 1
  · rw [if_pos c1] at h
    simp only [Option.some.injEq, Prod.mk.injEq] at h
    obtain ⟨rfl, rfl, rfl, rfl, rfl, rfl, rfl, rfl⟩ := h
    go_enter Try.func100, Try.ntmps100
    go_wp2
    refine bodyPost_ret (v := .tuple #[.agg #[.bool false, .bool false, .bool false, .bool false, .bool false, .bool false, .bool false], .int .i64 24]) (by simp [results, Try.results100, go_sem]) rfl ⟨rfl, ?_⟩
    exact below_alloc (below_alloc (Below.refl _ _) _) _
  · rw [if_neg c1] at h
    by_cases c2 : a0 > 11
    · rw [if_pos c2] at h
      simp only [Option.some.injEq, Prod.mk.injEq] at h
      obtain ⟨rfl, rfl, rfl, rfl, rfl, rfl, rfl, rfl⟩ := h
      go_enter Try.func100, Try.ntmps100
      go_wp2
      refine bodyPost_ret (v := .tuple #[.agg #[.bool false, .bool false, .bool false, .bool false, .bool false, .bool false, .bool false], .int .i64 24]) (by simp [results, Try.results100, go_sem]) rfl ⟨rfl, ?_⟩
      exact below_alloc (below_alloc (Below.refl _ _) _) _
    · rw [if_neg c2] at h
      simp only [Option.some.injEq, Prod.mk.injEq] at h
      obtain ⟨rfl, rfl, rfl, rfl, rfl, rfl, rfl, rfl⟩ := h
      go_enter Try.func100, Try.ntmps100
      go_wp2
      refine bodyPost_ret (v := .tuple #[.agg #[.bool (!decide (3 ≤ a0)), .bool (!decide (3 ≤ a0)), .bool (decide (4 ≤ a0)), .bool (!decide (6 ≤ a0)), .bool (decide (8 ≤ a0)), .bool (decide (9 ≤ a0)), .bool (decide (11 ≤ a0))], .int .i64 0]) (by simp [results, Try.results100, go_sem]) rfl ⟨rfl, ?_⟩
      exact below_alloc (below_alloc (Below.refl _ _) _) _
end Go.Proofs.Ytbnmcnghmnhigaa.X
end
section
namespace Go.Proofs.Ytbnmcnghmnhigaa.X
open Go.RowKit Go.Proofs.YtbnmcnghmnhigaaW.PrintWords Go.Proofs.YtbnmcnghmnhigaaW.PrintLast Go.Proofs.YtbnmcnghmnhigaaW.PrintMore
attribute [local go_sem] Go.Instr.field Go.asAgg max2_int min2_int max_two min_two max_three min_three max_four min_four
set_option linter.unusedVariables false
set_option linter.unusedSimpArgs false
def keep_Inner.f (a0 : Int) (a1 : ByteArray) (a2 : ByteArray) : Option (List ByteArray × Bool) := (version_Of.f a0).bind fun bt1130 => (if bt1130.2.2.2.2.2.2.1 = true then (if a1.toList = ([109, 46, 114, 111, 111, 109, 46, 109, 101, 109, 98, 101, 114] : List UInt8) then (if a2.toList = ([116, 104, 105, 114, 100, 95, 112, 97, 114, 116, 121, 95, 105, 110, 118, 105, 116, 101] : List UInt8) then (some ((([(⟨#[115, 105, 103, 110, 101, 100]⟩ : ByteArray)] : List ByteArray)), true)) else (some (([] : List ByteArray), false))) else (some (([] : List ByteArray), false))) else (some (([] : List ByteArray), false)))
set_option maxHeartbeats 8000000 in
set_option maxRecDepth 100000 in
theorem keep_Inner.calls (a0 : Int) (a1 : ByteArray) (a2 : ByteArray) (r1 : List ByteArray) (r2 : Bool) (w : World) (h : keep_Inner.f a0 a1 a2 = some (r1, r2)) :
    Calls Try.prog 57 #[.int .i64 a0, .string a1, .string a2] w fun e w' => ∃ v0_ : Value, e = .returned (.tuple #[v0_, .bool r2]) ∧ Kd.R Kd.string 9 w' w.heap.size (fun _ => True) v0_ r1 ∧ Below w.heap.size w w' := by
  have hu123 := Try.underlying123
  have HB := Aside0.mk (Below.refl w.heap.size w)
  have H : ((version_Of.f a0).bind fun bt1130 => (if bt1130.2.2.2.2.2.2.1 = true then (if a1.toList = ([109, 46, 114, 111, 111, 109, 46, 109, 101, 109, 98, 101, 114] : List UInt8) then (if a2.toList = ([116, 104, 105, 114, 100, 95, 112, 97, 114, 116, 121, 95, 105, 110, 118, 105, 116, 101] : List UInt8) then (some ((([(⟨#[115, 105, 103, 110, 101, 100]⟩ : ByteArray)] : List ByteArray)), true)) else (some (([] : List ByteArray), false))) else (some (([] : List ByteArray), false))) else (some (([] : List ByteArray), false)))) = some (r1, r2) := h
  clear h
  replace H := Option.bind_eq_some_iff.mp H
  obtain ⟨⟨t1130, t1131, t1132, t1133, t1134, t1135, t1136, t1137⟩, A40, H⟩ := H
  replace H : (if t1136 = true then (if a1.toList = ([109, 46, 114, 111, 111, 109, 46, 109, 101, 109, 98, 101, 114] : List UInt8) then (if a2.toList = ([116, 104, 105, 114, 100, 95, 112, 97, 114, 116, 121, 95, 105, 110, 118, 105, 116, 101] : List UInt8) then (some ((([(⟨#[115, 105, 103, 110, 101, 100]⟩ : ByteArray)] : List ByteArray)), true)) else (some (([] : List ByteArray), false))) else (some (([] : List ByteArray), false))) else (some (([] : List ByteArray), false))) = some (r1, r2) := H
  have A4 := Aside0.mk A40
  clear A40
  by_cases c5 : t1136 = true
  · subst c5
    have H1 : (if a1.toList = ([109, 46, 114, 111, 111, 109, 46, 109, 101, 109, 98, 101, 114] : List UInt8) then (if a2.toList = ([116, 104, 105, 114, 100, 95, 112, 97, 114, 116, 121, 95, 105, 110, 118, 105, 116, 101] : List UInt8) then (some ((([(⟨#[115, 105, 103, 110, 101, 100]⟩ : ByteArray)] : List ByteArray)), true)) else (some (([] : List ByteArray), false))) else (some (([] : List ByteArray), false))) = some (r1, r2) := by rw [if_pos rfl] at H; exact H
    clear H
    have H := H1
    clear H1
    by_cases c6 : a1.toList = ([109, 46, 114, 111, 111, 109, 46, 109, 101, 109, 98, 101, 114] : List UInt8)
    · rw [if_pos c6] at H
      have c6b0 : (a1.toList == ([109, 46, 114, 111, 111, 109, 46, 109, 101, 109, 98, 101, 114] : List UInt8)) = true := beq_iff_eq.mpr c6
      have c6b1 : (a1.toList != ([109, 46, 114, 111, 111, 109, 46, 109, 101, 109, 98, 101, 114] : List UInt8)) = false := bne_eq_false_iff_eq.mpr c6
      clear c6
      by_cases c7 : a2.toList = ([116, 104, 105, 114, 100, 95, 112, 97, 114, 116, 121, 95, 105, 110, 118, 105, 116, 101] : List UInt8)
      · rw [if_pos c7] at H
        have c7b0 : (a2.toList == ([116, 104, 105, 114, 100, 95, 112, 97, 114, 116, 121, 95, 105, 110, 118, 105, 116, 101] : List UInt8)) = true := beq_iff_eq.mpr c7
        have c7b1 : (a2.toList != ([116, 104, 105, 114, 100, 95, 112, 97, 114, 116, 121, 95, 105, 110, 118, 105, 116, 101] : List UInt8)) = false := bne_eq_false_iff_eq.mpr c7
        clear c7
        obtain ⟨y1139, hy1139⟩ : ∃ y_ : List ByteArray, y_ = (([(⟨#[115, 105, 103, 110, 101, 100]⟩ : ByteArray)] : List ByteArray)) := ⟨_, rfl⟩
        replace H : (some (y1139, true)) = some (r1, r2) := by first | (rw [hy1139]; with_reducible exact H) | (have H2_ := (Option.bind_some _ _).symm.trans H; rw [hy1139]; with_reducible exact H2_) | (have H2_ := (Option.bind_some _ _).symm.trans H; with_reducible exact H2_) | with_reducible exact H | (rw [hy1139]; exact H) | exact H
        have Ny1139 := Aside0.mk hy1139
        clear hy1139
        simp only [Option.some.injEq, Prod.mk.injEq] at H
        obtain ⟨rfl, rfl⟩ := H
        have hu29 := Try.underlying29
        go_enter Try.func57, Try.ntmps57
        go_wp2_with (first | ((with_reducible refine gate_callee (f := 100) rfl ?_); refine goesL_ (some 12) rfl rfl Try.func100 (by kernel_rfl) rfl #[.int .i64 a0] rfl (by (try simp only [List.map_toArray, List.map_cons, List.map_nil]); first | done | rfl | (simp only [List.length_drop, List.length_take]; rfl)) ?_; (with_reducible refine (version_Of.calls a0 t1130 t1131 t1132 t1133 t1134 t1135 true t1137 _ A4.out).mono ?_); rintro e w8 ⟨rfl, hb⟩; refine ⟨_, rfl, ?_⟩; have n0_ := Aside0.mk (below_step (by repeat (first | (with_reducible first | exact HB.out | apply below_alloc | apply pw_below_drewN | apply below_drew1) | exact HB.out)) hb); clear HB; have HB := n0_; clear n0_; (try clear hb); (try clear hb2); (try clear hk); (try clear hi)) | ((with_reducible refine gate_dst (N := 8) rfl ?_); refine box_event ?hg (N := 8) ?hd (cs := #[.bool false, .bool false, .bool false, .bool false, .bool false, .bool false, .bool false]) (t := 123) ?hr ?_; (case hd => rfl); (case hg => rfl); (case hr => first | (go_simp; done) | (go_simp; rfl)); intro gb1138 hg w9 hbox hb; have n0_ := Aside0.mk (below_step (by repeat (first | (with_reducible first | exact HB.out | apply below_alloc | apply pw_below_drewN | apply below_drew1) | exact HB.out)) hb); have n1_ := Aside0.mk (hbox); have n2_ := Aside0.mk ((by rw [hg]; exact (below_size (by repeat (first | (with_reducible first | exact HB.out | apply below_alloc | apply pw_below_drewN | apply below_drew1) | exact HB.out))) : w.heap.size ≤ gb1138)); have n3_ := Aside0.mk ((by rw [hg]; exact (below_size (by repeat (first | (with_reducible first | exact HB.out | apply below_alloc | apply pw_below_drewN | apply below_drew1) | exact HB.out))) : w.heap.size ≤ gb1138)); clear HB; have HB := n0_; have BK1138 := n1_; have GW1138 := n2_; have GE1138 := n3_; clear n0_ n1_ n2_ n3_; clear hb hbox hg; have hcz10_0 : w9.cell? ⟨gb1138, 0, none⟩ = some (.bool false) := (blk_cell BK1138.out 0).trans rfl; have hcz10_1 : w9.cell? ⟨gb1138, 1, none⟩ = some (.bool false) := (blk_cell BK1138.out 1).trans rfl; have hcz10_2 : w9.cell? ⟨gb1138, 2, none⟩ = some (.bool false) := (blk_cell BK1138.out 2).trans rfl; have hcz10_3 : w9.cell? ⟨gb1138, 3, none⟩ = some (.bool false) := (blk_cell BK1138.out 3).trans rfl; have hcz10_4 : w9.cell? ⟨gb1138, 4, none⟩ = some (.bool false) := (blk_cell BK1138.out 4).trans rfl; have hcz10_5 : w9.cell? ⟨gb1138, 5, none⟩ = some (.bool false) := (blk_cell BK1138.out 5).trans rfl; have hcz10_6 : w9.cell? ⟨gb1138, 6, none⟩ = some (.bool false) := (blk_cell BK1138.out 6).trans rfl; have hfz10_0 := blk_frozen BK1138.out 0; have hfz10_1 := blk_frozen BK1138.out 1; have hfz10_2 := blk_frozen BK1138.out 2; have hfz10_3 := blk_frozen BK1138.out 3; have hfz10_4 := blk_frozen BK1138.out 4; have hfz10_5 := blk_frozen BK1138.out 5; have hfz10_6 := blk_frozen BK1138.out 6) | ((with_reducible refine gate_dst (N := 25) rfl ?_); refine Kd.R_lit Kd.string _ 9 ?hg (N := 25) ?hd (xs := ([(⟨#[115, 105, 103, 110, 101, 100]⟩ : ByteArray)] : List ByteArray)) (inner := [.string (⟨#[115, 105, 103, 110, 101, 100]⟩ : ByteArray)]) (ok := fun _ => True) (okp := fun _ => True) ?hr ?hp (fun _ hk => hk) trivial (Below.refl _ _) (Nat.le_refl _) (by simp) ?_; (case hd => rfl); (case hg => rfl); (case hr => first | (go_simp; done) | (go_simp; rfl)); (case hp => exact (Reps.one (show Kd.M Kd.string _ _ _ (⟨#[115, 105, 103, 110, 101, 100]⟩ : ByteArray) [.string (⟨#[115, 105, 103, 110, 101, 100]⟩ : ByteArray)] from rfl) (Reps.none _ _))); intro v1140 w11 ho12 hb hg_ hnew_; clear hg_ hnew_; (first | rw [← Ny1139.out] at ho12 | (simp only [Int.reduceToNat] at ho12; rw [← Ny1139.out] at ho12)); have n0_ := Aside0.mk (Kd.R_lower ho12 (below_size (by repeat (first | (with_reducible first | exact HB.out | apply below_alloc | apply pw_below_drewN | apply below_drew1 | refine below_set ?_ GE1138.out) | exact HB.out)))); have n1_ := Aside0.mk (blk_below (g := gb1138) (o := .cells #[.bool t1130, .bool t1131, .bool t1132, .bool t1133, .bool t1134, .bool t1135, .bool true] 123 (0, 0)) (by (with_reducible repeat (first | refine blk_drewN ?_ _ | refine blk_drew ?_ | refine blk_alloc ?_ _)); refine blk_put (cs := #[.bool t1130, .bool t1131, .bool t1132, .bool t1133, .bool t1134, .bool t1135, .bool false]) ?_ 6 _ rfl; (with_reducible repeat (first | refine blk_drewN ?_ _ | refine blk_drew ?_ | refine blk_alloc ?_ _)); refine blk_put (cs := #[.bool t1130, .bool t1131, .bool t1132, .bool t1133, .bool t1134, .bool false, .bool false]) ?_ 5 _ rfl; (with_reducible repeat (first | refine blk_drewN ?_ _ | refine blk_drew ?_ | refine blk_alloc ?_ _)); refine blk_put (cs := #[.bool t1130, .bool t1131, .bool t1132, .bool t1133, .bool false, .bool false, .bool false]) ?_ 4 _ rfl; (with_reducible repeat (first | refine blk_drewN ?_ _ | refine blk_drew ?_ | refine blk_alloc ?_ _)); refine blk_put (cs := #[.bool t1130, .bool t1131, .bool t1132, .bool false, .bool false, .bool false, .bool false]) ?_ 3 _ rfl; (with_reducible repeat (first | refine blk_drewN ?_ _ | refine blk_drew ?_ | refine blk_alloc ?_ _)); refine blk_put (cs := #[.bool t1130, .bool t1131, .bool false, .bool false, .bool false, .bool false, .bool false]) ?_ 2 _ rfl; (with_reducible repeat (first | refine blk_drewN ?_ _ | refine blk_drew ?_ | refine blk_alloc ?_ _)); refine blk_put (cs := #[.bool t1130, .bool false, .bool false, .bool false, .bool false, .bool false, .bool false]) ?_ 1 _ rfl; (with_reducible repeat (first | refine blk_drewN ?_ _ | refine blk_drew ?_ | refine blk_alloc ?_ _)); refine blk_put (cs := #[.bool false, .bool false, .bool false, .bool false, .bool false, .bool false, .bool false]) ?_ 0 _ rfl; (with_reducible repeat (first | refine blk_drewN ?_ _ | refine blk_drew ?_ | refine blk_alloc ?_ _)); exact BK1138.out) hb); have n2_ := Aside0.mk (below_step (by repeat (first | (with_reducible first | exact HB.out | apply below_alloc | apply pw_below_drewN | apply below_drew1 | refine below_set ?_ GE1138.out) | exact HB.out)) hb); clear BK1138; clear HB; have HO1141 := n0_; have BK1138 := n1_; have HB := n2_; clear n0_ n1_ n2_; clear hb ho12))
        go_ret2
        exact ⟨_, by first | rfl | (simp [errW_none, errW_some] <;> rfl) | (simp [*, errW_none, errW_some] <;> rfl), by (with_reducible repeat (first | apply Kd.R_alloc | apply Kd.R_drewN | apply Kd.R_drew)); exact HO1141.out, by repeat (first | (with_reducible first | exact HB.out | apply below_alloc | apply pw_below_drewN | apply below_drew1 | refine below_set ?_ GE1138.out) | exact HB.out)⟩
      · rw [if_neg c7] at H
        have c7b0 : (a2.toList == ([116, 104, 105, 114, 100, 95, 112, 97, 114, 116, 121, 95, 105, 110, 118, 105, 116, 101] : List UInt8)) = false := beq_eq_false_iff_ne.mpr c7
        have c7b1 : (a2.toList != ([116, 104, 105, 114, 100, 95, 112, 97, 114, 116, 121, 95, 105, 110, 118, 105, 116, 101] : List UInt8)) = true := bne_iff_ne.mpr c7
        simp only [Option.some.injEq, Prod.mk.injEq] at H
        obtain ⟨rfl, rfl⟩ := H
        have hu29 := Try.underlying29
        go_enter Try.func57, Try.ntmps57
        go_wp2_with (first | ((with_reducible refine gate_callee (f := 100) rfl ?_); refine goesL_ (some 12) rfl rfl Try.func100 (by kernel_rfl) rfl #[.int .i64 a0] rfl (by (try simp only [List.map_toArray, List.map_cons, List.map_nil]); first | done | rfl | (simp only [List.length_drop, List.length_take]; rfl)) ?_; (with_reducible refine (version_Of.calls a0 t1130 t1131 t1132 t1133 t1134 t1135 true t1137 _ A4.out).mono ?_); rintro e w13 ⟨rfl, hb⟩; refine ⟨_, rfl, ?_⟩; have n0_ := Aside0.mk (below_step (by repeat (first | (with_reducible first | exact HB.out | apply below_alloc | apply pw_below_drewN | apply below_drew1) | exact HB.out)) hb); clear HB; have HB := n0_; clear n0_; (try clear hb); (try clear hb2); (try clear hk); (try clear hi)) | ((with_reducible refine gate_dst (N := 8) rfl ?_); refine box_event ?hg (N := 8) ?hd (cs := #[.bool false, .bool false, .bool false, .bool false, .bool false, .bool false, .bool false]) (t := 123) ?hr ?_; (case hd => rfl); (case hg => rfl); (case hr => first | (go_simp; done) | (go_simp; rfl)); intro gb1138 hg w14 hbox hb; have n0_ := Aside0.mk (below_step (by repeat (first | (with_reducible first | exact HB.out | apply below_alloc | apply pw_below_drewN | apply below_drew1) | exact HB.out)) hb); have n1_ := Aside0.mk (hbox); have n2_ := Aside0.mk ((by rw [hg]; exact (below_size (by repeat (first | (with_reducible first | exact HB.out | apply below_alloc | apply pw_below_drewN | apply below_drew1) | exact HB.out))) : w.heap.size ≤ gb1138)); have n3_ := Aside0.mk ((by rw [hg]; exact (below_size (by repeat (first | (with_reducible first | exact HB.out | apply below_alloc | apply pw_below_drewN | apply below_drew1) | exact HB.out))) : w.heap.size ≤ gb1138)); clear HB; have HB := n0_; have BK1138 := n1_; have GW1138 := n2_; have GE1138 := n3_; clear n0_ n1_ n2_ n3_; clear hb hbox hg; have hcz15_0 : w14.cell? ⟨gb1138, 0, none⟩ = some (.bool false) := (blk_cell BK1138.out 0).trans rfl; have hcz15_1 : w14.cell? ⟨gb1138, 1, none⟩ = some (.bool false) := (blk_cell BK1138.out 1).trans rfl; have hcz15_2 : w14.cell? ⟨gb1138, 2, none⟩ = some (.bool false) := (blk_cell BK1138.out 2).trans rfl; have hcz15_3 : w14.cell? ⟨gb1138, 3, none⟩ = some (.bool false) := (blk_cell BK1138.out 3).trans rfl; have hcz15_4 : w14.cell? ⟨gb1138, 4, none⟩ = some (.bool false) := (blk_cell BK1138.out 4).trans rfl; have hcz15_5 : w14.cell? ⟨gb1138, 5, none⟩ = some (.bool false) := (blk_cell BK1138.out 5).trans rfl; have hcz15_6 : w14.cell? ⟨gb1138, 6, none⟩ = some (.bool false) := (blk_cell BK1138.out 6).trans rfl; have hfz15_0 := blk_frozen BK1138.out 0; have hfz15_1 := blk_frozen BK1138.out 1; have hfz15_2 := blk_frozen BK1138.out 2; have hfz15_3 := blk_frozen BK1138.out 3; have hfz15_4 := blk_frozen BK1138.out 4; have hfz15_5 := blk_frozen BK1138.out 5; have hfz15_6 := blk_frozen BK1138.out 6))
        go_ret2
        exact ⟨_, by first | rfl | (simp [errW_none, errW_some] <;> rfl) | (simp [*, errW_none, errW_some] <;> rfl), by first | exact Kd.R_nil _ _ _ _ _ | exact Kd.N_nil _ _ _ _ _ | exact Kd.V_nil _ _ _ _ _ | exact Kd.Q_nil _ _ _ _ _ | exact Kd.S_nil _ _ _ _ _, by repeat (first | (with_reducible first | exact HB.out | apply below_alloc | apply pw_below_drewN | apply below_drew1 | refine below_set ?_ GE1138.out) | exact HB.out)⟩
    · rw [if_neg c6] at H
      have c6b0 : (a1.toList == ([109, 46, 114, 111, 111, 109, 46, 109, 101, 109, 98, 101, 114] : List UInt8)) = false := beq_eq_false_iff_ne.mpr c6
      have c6b1 : (a1.toList != ([109, 46, 114, 111, 111, 109, 46, 109, 101, 109, 98, 101, 114] : List UInt8)) = true := bne_iff_ne.mpr c6
      simp only [Option.some.injEq, Prod.mk.injEq] at H
      obtain ⟨rfl, rfl⟩ := H
      have hu29 := Try.underlying29
      go_enter Try.func57, Try.ntmps57
      go_wp2_with (first | ((with_reducible refine gate_callee (f := 100) rfl ?_); refine goesL_ (some 12) rfl rfl Try.func100 (by kernel_rfl) rfl #[.int .i64 a0] rfl (by (try simp only [List.map_toArray, List.map_cons, List.map_nil]); first | done | rfl | (simp only [List.length_drop, List.length_take]; rfl)) ?_; (with_reducible refine (version_Of.calls a0 t1130 t1131 t1132 t1133 t1134 t1135 true t1137 _ A4.out).mono ?_); rintro e w16 ⟨rfl, hb⟩; refine ⟨_, rfl, ?_⟩; have n0_ := Aside0.mk (below_step (by repeat (first | (with_reducible first | exact HB.out | apply below_alloc | apply pw_below_drewN | apply below_drew1) | exact HB.out)) hb); clear HB; have HB := n0_; clear n0_; (try clear hb); (try clear hb2); (try clear hk); (try clear hi)) | ((with_reducible refine gate_dst (N := 8) rfl ?_); refine box_event ?hg (N := 8) ?hd (cs := #[.bool false, .bool false, .bool false, .bool false, .bool false, .bool false, .bool false]) (t := 123) ?hr ?_; (case hd => rfl); (case hg => rfl); (case hr => first | (go_simp; done) | (go_simp; rfl)); intro gb1138 hg w17 hbox hb; have n0_ := Aside0.mk (below_step (by repeat (first | (with_reducible first | exact HB.out | apply below_alloc | apply pw_below_drewN | apply below_drew1) | exact HB.out)) hb); have n1_ := Aside0.mk (hbox); have n2_ := Aside0.mk ((by rw [hg]; exact (below_size (by repeat (first | (with_reducible first | exact HB.out | apply below_alloc | apply pw_below_drewN | apply below_drew1) | exact HB.out))) : w.heap.size ≤ gb1138)); have n3_ := Aside0.mk ((by rw [hg]; exact (below_size (by repeat (first | (with_reducible first | exact HB.out | apply below_alloc | apply pw_below_drewN | apply below_drew1) | exact HB.out))) : w.heap.size ≤ gb1138)); clear HB; have HB := n0_; have BK1138 := n1_; have GW1138 := n2_; have GE1138 := n3_; clear n0_ n1_ n2_ n3_; clear hb hbox hg; have hcz18_0 : w17.cell? ⟨gb1138, 0, none⟩ = some (.bool false) := (blk_cell BK1138.out 0).trans rfl; have hcz18_1 : w17.cell? ⟨gb1138, 1, none⟩ = some (.bool false) := (blk_cell BK1138.out 1).trans rfl; have hcz18_2 : w17.cell? ⟨gb1138, 2, none⟩ = some (.bool false) := (blk_cell BK1138.out 2).trans rfl; have hcz18_3 : w17.cell? ⟨gb1138, 3, none⟩ = some (.bool false) := (blk_cell BK1138.out 3).trans rfl; have hcz18_4 : w17.cell? ⟨gb1138, 4, none⟩ = some (.bool false) := (blk_cell BK1138.out 4).trans rfl; have hcz18_5 : w17.cell? ⟨gb1138, 5, none⟩ = some (.bool false) := (blk_cell BK1138.out 5).trans rfl; have hcz18_6 : w17.cell? ⟨gb1138, 6, none⟩ = some (.bool false) := (blk_cell BK1138.out 6).trans rfl; have hfz18_0 := blk_frozen BK1138.out 0; have hfz18_1 := blk_frozen BK1138.out 1; have hfz18_2 := blk_frozen BK1138.out 2; have hfz18_3 := blk_frozen BK1138.out 3; have hfz18_4 := blk_frozen BK1138.out 4; have hfz18_5 := blk_frozen BK1138.out 5; have hfz18_6 := blk_frozen BK1138.out 6))
      go_ret2
      exact ⟨_, by first | rfl | (simp [errW_none, errW_some] <;> rfl) | (simp [*, errW_none, errW_some] <;> rfl), by first | exact Kd.R_nil _ _ _ _ _ | exact Kd.N_nil _ _ _ _ _ | exact Kd.V_nil _ _ _ _ _ | exact Kd.Q_nil _ _ _ _ _ | exact Kd.S_nil _ _ _ _ _, by repeat (first | (with_reducible first | exact HB.out | apply below_alloc | apply pw_below_drewN | apply below_drew1 | refine below_set ?_ GE1138.out) | exact HB.out)⟩
  · replace c5 := Bool.eq_false_iff.mpr c5
    subst c5
    have H1 : (some (([] : List ByteArray), false)) = some (r1, r2) := by rw [if_neg (show ¬ (false = true) by decide)] at H; exact H
    clear H
    have H := H1
    clear H1
    simp only [Option.some.injEq, Prod.mk.injEq] at H
    obtain ⟨rfl, rfl⟩ := H
    have hu29 := Try.underlying29
    go_enter Try.func57, Try.ntmps57
    go_wp2_with (first | ((with_reducible refine gate_callee (f := 100) rfl ?_); refine goesL_ (some 12) rfl rfl Try.func100 (by kernel_rfl) rfl #[.int .i64 a0] rfl (by (try simp only [List.map_toArray, List.map_cons, List.map_nil]); first | done | rfl | (simp only [List.length_drop, List.length_take]; rfl)) ?_; (with_reducible refine (version_Of.calls a0 t1130 t1131 t1132 t1133 t1134 t1135 false t1137 _ A4.out).mono ?_); rintro e w19 ⟨rfl, hb⟩; refine ⟨_, rfl, ?_⟩; have n0_ := Aside0.mk (below_step (by repeat (first | (with_reducible first | exact HB.out | apply below_alloc | apply pw_below_drewN | apply below_drew1) | exact HB.out)) hb); clear HB; have HB := n0_; clear n0_; (try clear hb); (try clear hb2); (try clear hk); (try clear hi)) | ((with_reducible refine gate_dst (N := 8) rfl ?_); refine box_event ?hg (N := 8) ?hd (cs := #[.bool false, .bool false, .bool false, .bool false, .bool false, .bool false, .bool false]) (t := 123) ?hr ?_; (case hd => rfl); (case hg => rfl); (case hr => first | (go_simp; done) | (go_simp; rfl)); intro gb1138 hg w20 hbox hb; have n0_ := Aside0.mk (below_step (by repeat (first | (with_reducible first | exact HB.out | apply below_alloc | apply pw_below_drewN | apply below_drew1) | exact HB.out)) hb); have n1_ := Aside0.mk (hbox); have n2_ := Aside0.mk ((by rw [hg]; exact (below_size (by repeat (first | (with_reducible first | exact HB.out | apply below_alloc | apply pw_below_drewN | apply below_drew1) | exact HB.out))) : w.heap.size ≤ gb1138)); have n3_ := Aside0.mk ((by rw [hg]; exact (below_size (by repeat (first | (with_reducible first | exact HB.out | apply below_alloc | apply pw_below_drewN | apply below_drew1) | exact HB.out))) : w.heap.size ≤ gb1138)); clear HB; have HB := n0_; have BK1138 := n1_; have GW1138 := n2_; have GE1138 := n3_; clear n0_ n1_ n2_ n3_; clear hb hbox hg; have hcz21_0 : w20.cell? ⟨gb1138, 0, none⟩ = some (.bool false) := (blk_cell BK1138.out 0).trans rfl; have hcz21_1 : w20.cell? ⟨gb1138, 1, none⟩ = some (.bool false) := (blk_cell BK1138.out 1).trans rfl; have hcz21_2 : w20.cell? ⟨gb1138, 2, none⟩ = some (.bool false) := (blk_cell BK1138.out 2).trans rfl; have hcz21_3 : w20.cell? ⟨gb1138, 3, none⟩ = some (.bool false) := (blk_cell BK1138.out 3).trans rfl; have hcz21_4 : w20.cell? ⟨gb1138, 4, none⟩ = some (.bool false) := (blk_cell BK1138.out 4).trans rfl; have hcz21_5 : w20.cell? ⟨gb1138, 5, none⟩ = some (.bool false) := (blk_cell BK1138.out 5).trans rfl; have hcz21_6 : w20.cell? ⟨gb1138, 6, none⟩ = some (.bool false) := (blk_cell BK1138.out 6).trans rfl; have hfz21_0 := blk_frozen BK1138.out 0; have hfz21_1 := blk_frozen BK1138.out 1; have hfz21_2 := blk_frozen BK1138.out 2; have hfz21_3 := blk_frozen BK1138.out 3; have hfz21_4 := blk_frozen BK1138.out 4; have hfz21_5 := blk_frozen BK1138.out 5; have hfz21_6 := blk_frozen BK1138.out 6))
    go_ret2
    exact ⟨_, by first | rfl | (simp [errW_none, errW_some] <;> rfl) | (simp [*, errW_none, errW_some] <;> rfl), by first | exact Kd.R_nil _ _ _ _ _ | exact Kd.N_nil _ _ _ _ _ | exact Kd.V_nil _ _ _ _ _ | exact Kd.Q_nil _ _ _ _ _ | exact Kd.S_nil _ _ _ _ _, by repeat (first | (with_reducible first | exact HB.out | apply below_alloc | apply pw_below_drewN | apply below_drew1 | refine below_set ?_ GE1138.out) | exact HB.out)⟩
end Go.Proofs.Ytbnmcnghmnhigaa.X
end
section
namespace Go.Proofs.Ytbnmcnghmnhigaa.X
open Go.RowKit Go.Proofs.YtbnmcnghmnhigaaW.PrintWords Go.Proofs.YtbnmcnghmnhigaaW.PrintLast Go.Proofs.YtbnmcnghmnhigaaW.PrintMore
attribute [local go_sem] max2_int min2_int max_two min_two max_three min_three max_four min_four
set_option linter.unusedVariables false
set_option linter.unusedSimpArgs false
def sealringref32_Inner.f (a0 : Int) (a1 : ByteArray) (a2 : ByteArray) : Option (List ByteArray × Bool) := (sealringref26_Of.f a0).bind fun bt1142 => (if bt1142.2 = true then (if 6 < (bt1142.1.length : Int) then (if rdOf false bt1142.1 6 = true then (if a1.toList = ([109, 46, 114, 111, 111, 109, 46, 109, 101, 109, 98, 101, 114] : List UInt8) then (if a2.toList = ([116, 104, 105, 114, 100, 95, 112, 97, 114, 116, 121, 95, 105, 110, 118, 105, 116, 101] : List UInt8) then (some ((([(⟨#[115, 105, 103, 110, 101, 100]⟩ : ByteArray)] : List ByteArray)), true)) else (some (([] : List ByteArray), false))) else (some (([] : List ByteArray), false))) else (some (([] : List ByteArray), false))) else (none)) else (some (([] : List ByteArray), false)))
set_option maxHeartbeats 8000000 in
set_option maxRecDepth 100000 in
theorem sealringref32_Inner.calls (a0 : Int) (a1 : ByteArray) (a2 : ByteArray) (r1 : List ByteArray) (r2 : Bool) (w : World) (h : sealringref32_Inner.f a0 a1 a2 = some (r1, r2)) :
    Calls Try.prog 58 #[.int .i64 a0, .string a1, .string a2] w fun e w' => ∃ v0_ : Value, e = .returned (.tuple #[v0_, .bool r2]) ∧ Kd.R Kd.string 9 w' w.heap.size (fun _ => True) v0_ r1 ∧ Below w.heap.size w w' := by
  have HB := Aside0.mk (Below.refl w.heap.size w)
  have H : ((sealringref26_Of.f a0).bind fun bt1142 => (if bt1142.2 = true then (if 6 < (bt1142.1.length : Int) then (if rdOf false bt1142.1 6 = true then (if a1.toList = ([109, 46, 114, 111, 111, 109, 46, 109, 101, 109, 98, 101, 114] : List UInt8) then (if a2.toList = ([116, 104, 105, 114, 100, 95, 112, 97, 114, 116, 121, 95, 105, 110, 118, 105, 116, 101] : List UInt8) then (some ((([(⟨#[115, 105, 103, 110, 101, 100]⟩ : ByteArray)] : List ByteArray)), true)) else (some (([] : List ByteArray), false))) else (some (([] : List ByteArray), false))) else (some (([] : List ByteArray), false))) else (none)) else (some (([] : List ByteArray), false)))) = some (r1, r2) := h
  clear h
  replace H := Option.bind_eq_some_iff.mp H
  obtain ⟨⟨t1142, t1143⟩, A40, H⟩ := H
  replace H : (if t1143 = true then (if 6 < (t1142.length : Int) then (if rdOf false t1142 6 = true then (if a1.toList = ([109, 46, 114, 111, 111, 109, 46, 109, 101, 109, 98, 101, 114] : List UInt8) then (if a2.toList = ([116, 104, 105, 114, 100, 95, 112, 97, 114, 116, 121, 95, 105, 110, 118, 105, 116, 101] : List UInt8) then (some ((([(⟨#[115, 105, 103, 110, 101, 100]⟩ : ByteArray)] : List ByteArray)), true)) else (some (([] : List ByteArray), false))) else (some (([] : List ByteArray), false))) else (some (([] : List ByteArray), false))) else (none)) else (some (([] : List ByteArray), false))) = some (r1, r2) := H
  have A4 := Aside0.mk A40
  clear A40
  by_cases c5 : t1143 = true
  · subst c5
    have H1 : (if 6 < (t1142.length : Int) then (if rdOf false t1142 6 = true then (if a1.toList = ([109, 46, 114, 111, 111, 109, 46, 109, 101, 109, 98, 101, 114] : List UInt8) then (if a2.toList = ([116, 104, 105, 114, 100, 95, 112, 97, 114, 116, 121, 95, 105, 110, 118, 105, 116, 101] : List UInt8) then (some ((([(⟨#[115, 105, 103, 110, 101, 100]⟩ : ByteArray)] : List ByteArray)), true)) else (some (([] : List ByteArray), false))) else (some (([] : List ByteArray), false))) else (some (([] : List ByteArray), false))) else (none)) = some (r1, r2) := by rw [if_pos rfl] at H; exact H
    clear H
    have H := H1
    clear H1
    by_cases c6 : 6 < (t1142.length : Int)
    · rw [if_pos c6] at H
      have c6b0 : decide (6 < (t1142.length : Int)) = true := decide_eq_true c6
      have c6b1 : decide (6 < t1142.length) = true := decide_eq_true (by omega)
      clear c6
      obtain ⟨bq7, hbq7⟩ : ∃ b_ : Bool, b_ = (rdOf false t1142 6) := ⟨_, rfl⟩
      replace H : (if bq7 = true then (if a1.toList = ([109, 46, 114, 111, 111, 109, 46, 109, 101, 109, 98, 101, 114] : List UInt8) then (if a2.toList = ([116, 104, 105, 114, 100, 95, 112, 97, 114, 116, 121, 95, 105, 110, 118, 105, 116, 101] : List UInt8) then (some ((([(⟨#[115, 105, 103, 110, 101, 100]⟩ : ByteArray)] : List ByteArray)), true)) else (some (([] : List ByteArray), false))) else (some (([] : List ByteArray), false))) else (some (([] : List ByteArray), false))) = some (r1, r2) := by rw [← hbq7] at H; exact H
      have Nbq7 := Aside0.mk hbq7
      clear hbq7
      by_cases c8 : bq7 = true
      · subst c8
        have H1 : (if a1.toList = ([109, 46, 114, 111, 111, 109, 46, 109, 101, 109, 98, 101, 114] : List UInt8) then (if a2.toList = ([116, 104, 105, 114, 100, 95, 112, 97, 114, 116, 121, 95, 105, 110, 118, 105, 116, 101] : List UInt8) then (some ((([(⟨#[115, 105, 103, 110, 101, 100]⟩ : ByteArray)] : List ByteArray)), true)) else (some (([] : List ByteArray), false))) else (some (([] : List ByteArray), false))) = some (r1, r2) := by rw [if_pos rfl] at H; exact H
        clear H
        have H := H1
        clear H1
        by_cases c9 : a1.toList = ([109, 46, 114, 111, 111, 109, 46, 109, 101, 109, 98, 101, 114] : List UInt8)
        · rw [if_pos c9] at H
          have c9b0 : (a1.toList == ([109, 46, 114, 111, 111, 109, 46, 109, 101, 109, 98, 101, 114] : List UInt8)) = true := beq_iff_eq.mpr c9
          have c9b1 : (a1.toList != ([109, 46, 114, 111, 111, 109, 46, 109, 101, 109, 98, 101, 114] : List UInt8)) = false := bne_eq_false_iff_eq.mpr c9
          clear c9
          by_cases c10 : a2.toList = ([116, 104, 105, 114, 100, 95, 112, 97, 114, 116, 121, 95, 105, 110, 118, 105, 116, 101] : List UInt8)
          · rw [if_pos c10] at H
            have c10b0 : (a2.toList == ([116, 104, 105, 114, 100, 95, 112, 97, 114, 116, 121, 95, 105, 110, 118, 105, 116, 101] : List UInt8)) = true := beq_iff_eq.mpr c10
            have c10b1 : (a2.toList != ([116, 104, 105, 114, 100, 95, 112, 97, 114, 116, 121, 95, 105, 110, 118, 105, 116, 101] : List UInt8)) = false := bne_eq_false_iff_eq.mpr c10
            clear c10
            obtain ⟨y1147, hy1147⟩ : ∃ y_ : List ByteArray, y_ = (([(⟨#[115, 105, 103, 110, 101, 100]⟩ : ByteArray)] : List ByteArray)) := ⟨_, rfl⟩
            replace H : (some (y1147, true)) = some (r1, r2) := by first | (rw [hy1147]; with_reducible exact H) | (have H2_ := (Option.bind_some _ _).symm.trans H; rw [hy1147]; with_reducible exact H2_) | (have H2_ := (Option.bind_some _ _).symm.trans H; with_reducible exact H2_) | with_reducible exact H | (rw [hy1147]; exact H) | exact H
            have Ny1147 := Aside0.mk hy1147
            clear hy1147
            simp only [Option.some.injEq, Prod.mk.injEq] at H
            obtain ⟨rfl, rfl⟩ := H
            go_enter Try.func58, Try.ntmps58
            go_wp2_with (first | ((with_reducible refine gate_callee (f := 102) rfl ?_); refine goesL_ (some 12) rfl rfl Try.func102 (by kernel_rfl) rfl #[.int .i64 a0] rfl (by (try simp only [List.map_toArray, List.map_cons, List.map_nil]); first | done | rfl | (simp only [List.length_drop, List.length_take]; rfl)) ?_; (with_reducible refine (sealringref26_Of.calls a0 t1142 true _ A4.out).mono ?_); rintro e w11 ⟨v1144, rfl, ho0, hb⟩; refine ⟨_, rfl, ?_⟩; have n0_ := Aside0.mk (Kd.R_lower ho0 (below_size (by repeat (first | (with_reducible first | exact HB.out | apply below_alloc | apply pw_below_drewN | apply below_drew1) | exact HB.out)))); have n1_ := Aside0.mk (below_step (by repeat (first | (with_reducible first | exact HB.out | apply below_alloc | apply pw_below_drewN | apply below_drew1) | exact HB.out)) hb); clear HB; have HO1145 := n0_; have HB := n1_; clear n0_ n1_; (try clear hb); (try clear hb2); (try clear hk); (try clear hi); (try clear ho0); obtain ⟨Ao12, co12, eo12⟩ := Kd.R_slice HO1145.out; subst eo12; have p1146 : 0 ≤ (6 : Int) := (by omega); have q1146 : 6 < (t1142.length : Int) := of_decide_eq_true (by first | (with_reducible assumption) | assumption); obtain ⟨ad1146, e1146, hx1146_0⟩ := Kd.at_bool (Kd.R_reads' HO1145.out).2.2 6 p1146 q1146; (try rw [← Nbq7.out] at hx1146_0); cases e1146; (try simp only [show (6 : Int).toNat = 6 from rfl, Nat.reduceMul, Nat.reduceEqDiff, Go.Addr.add, ↓reduceIte] at hx1146_0); have qi1146 : (6 < t1142.length) = True := eq_true (by omega); (try rw [show ((6 : Int)).toNat = 6 from rfl] at hx1146_0); replace p1146 := eq_true p1146; replace q1146 := eq_true q1146) | ((with_reducible refine gate_dst (N := 29) rfl ?_); refine Kd.R_lit Kd.string _ 9 ?hg (N := 29) ?hd (xs := ([(⟨#[115, 105, 103, 110, 101, 100]⟩ : ByteArray)] : List ByteArray)) (inner := [.string (⟨#[115, 105, 103, 110, 101, 100]⟩ : ByteArray)]) (ok := fun _ => True) (okp := fun _ => True) ?hr ?hp (fun _ hk => hk) trivial (Below.refl _ _) (Nat.le_refl _) (by simp) ?_; (case hd => rfl); (case hg => rfl); (case hr => first | (go_simp; done) | (go_simp; rfl)); (case hp => exact (Reps.one (show Kd.M Kd.string _ _ _ (⟨#[115, 105, 103, 110, 101, 100]⟩ : ByteArray) [.string (⟨#[115, 105, 103, 110, 101, 100]⟩ : ByteArray)] from rfl) (Reps.none _ _))); intro v1148 w13 ho14 hb hg_ hnew_; clear hg_ hnew_; (first | rw [← Ny1147.out] at ho14 | (simp only [Int.reduceToNat] at ho14; rw [← Ny1147.out] at ho14)); have n0_ := Aside0.mk (Kd.R_below (by (with_reducible repeat (first | apply Kd.R_alloc | apply Kd.R_drewN | apply Kd.R_drew)); exact HO1145.out) hb); have n1_ := Aside0.mk (Kd.R_lower ho14 (below_size (by repeat (first | (with_reducible first | exact HB.out | apply below_alloc | apply pw_below_drewN | apply below_drew1) | exact HB.out)))); have n2_ := Aside0.mk (below_step (by repeat (first | (with_reducible first | exact HB.out | apply below_alloc | apply pw_below_drewN | apply below_drew1) | exact HB.out)) hb); clear HO1145; clear HB; have HO1145 := n0_; have HO1149 := n1_; have HB := n2_; clear n0_ n1_ n2_; clear hb ho14))
            go_ret2
            exact ⟨_, by first | rfl | (simp [errW_none, errW_some] <;> rfl) | (simp [*, errW_none, errW_some] <;> rfl), by (with_reducible repeat (first | apply Kd.R_alloc | apply Kd.R_drewN | apply Kd.R_drew)); exact HO1149.out, by repeat (first | (with_reducible first | exact HB.out | apply below_alloc | apply pw_below_drewN | apply below_drew1) | exact HB.out)⟩
          · rw [if_neg c10] at H
            have c10b0 : (a2.toList == ([116, 104, 105, 114, 100, 95, 112, 97, 114, 116, 121, 95, 105, 110, 118, 105, 116, 101] : List UInt8)) = false := beq_eq_false_iff_ne.mpr c10
            have c10b1 : (a2.toList != ([116, 104, 105, 114, 100, 95, 112, 97, 114, 116, 121, 95, 105, 110, 118, 105, 116, 101] : List UInt8)) = true := bne_iff_ne.mpr c10
            simp only [Option.some.injEq, Prod.mk.injEq] at H
            obtain ⟨rfl, rfl⟩ := H
            go_enter Try.func58, Try.ntmps58
            go_wp2_with (first | ((with_reducible refine gate_callee (f := 102) rfl ?_); refine goesL_ (some 12) rfl rfl Try.func102 (by kernel_rfl) rfl #[.int .i64 a0] rfl (by (try simp only [List.map_toArray, List.map_cons, List.map_nil]); first | done | rfl | (simp only [List.length_drop, List.length_take]; rfl)) ?_; (with_reducible refine (sealringref26_Of.calls a0 t1142 true _ A4.out).mono ?_); rintro e w15 ⟨v1144, rfl, ho0, hb⟩; refine ⟨_, rfl, ?_⟩; have n0_ := Aside0.mk (Kd.R_lower ho0 (below_size (by repeat (first | (with_reducible first | exact HB.out | apply below_alloc | apply pw_below_drewN | apply below_drew1) | exact HB.out)))); have n1_ := Aside0.mk (below_step (by repeat (first | (with_reducible first | exact HB.out | apply below_alloc | apply pw_below_drewN | apply below_drew1) | exact HB.out)) hb); clear HB; have HO1145 := n0_; have HB := n1_; clear n0_ n1_; (try clear hb); (try clear hb2); (try clear hk); (try clear hi); (try clear ho0); obtain ⟨Ao16, co16, eo16⟩ := Kd.R_slice HO1145.out; subst eo16; have p1146 : 0 ≤ (6 : Int) := (by omega); have q1146 : 6 < (t1142.length : Int) := of_decide_eq_true (by first | (with_reducible assumption) | assumption); obtain ⟨ad1146, e1146, hx1146_0⟩ := Kd.at_bool (Kd.R_reads' HO1145.out).2.2 6 p1146 q1146; (try rw [← Nbq7.out] at hx1146_0); cases e1146; (try simp only [show (6 : Int).toNat = 6 from rfl, Nat.reduceMul, Nat.reduceEqDiff, Go.Addr.add, ↓reduceIte] at hx1146_0); have qi1146 : (6 < t1142.length) = True := eq_true (by omega); (try rw [show ((6 : Int)).toNat = 6 from rfl] at hx1146_0); replace p1146 := eq_true p1146; replace q1146 := eq_true q1146))
            go_ret2
            exact ⟨_, by first | rfl | (simp [errW_none, errW_some] <;> rfl) | (simp [*, errW_none, errW_some] <;> rfl), by first | exact Kd.R_nil _ _ _ _ _ | exact Kd.N_nil _ _ _ _ _ | exact Kd.V_nil _ _ _ _ _ | exact Kd.Q_nil _ _ _ _ _ | exact Kd.S_nil _ _ _ _ _, by repeat (first | (with_reducible first | exact HB.out | apply below_alloc | apply pw_below_drewN | apply below_drew1) | exact HB.out)⟩
        · rw [if_neg c9] at H
          have c9b0 : (a1.toList == ([109, 46, 114, 111, 111, 109, 46, 109, 101, 109, 98, 101, 114] : List UInt8)) = false := beq_eq_false_iff_ne.mpr c9
          have c9b1 : (a1.toList != ([109, 46, 114, 111, 111, 109, 46, 109, 101, 109, 98, 101, 114] : List UInt8)) = true := bne_iff_ne.mpr c9
          simp only [Option.some.injEq, Prod.mk.injEq] at H
          obtain ⟨rfl, rfl⟩ := H
          go_enter Try.func58, Try.ntmps58
          go_wp2_with (first | ((with_reducible refine gate_callee (f := 102) rfl ?_); refine goesL_ (some 12) rfl rfl Try.func102 (by kernel_rfl) rfl #[.int .i64 a0] rfl (by (try simp only [List.map_toArray, List.map_cons, List.map_nil]); first | done | rfl | (simp only [List.length_drop, List.length_take]; rfl)) ?_; (with_reducible refine (sealringref26_Of.calls a0 t1142 true _ A4.out).mono ?_); rintro e w17 ⟨v1144, rfl, ho0, hb⟩; refine ⟨_, rfl, ?_⟩; have n0_ := Aside0.mk (Kd.R_lower ho0 (below_size (by repeat (first | (with_reducible first | exact HB.out | apply below_alloc | apply pw_below_drewN | apply below_drew1) | exact HB.out)))); have n1_ := Aside0.mk (below_step (by repeat (first | (with_reducible first | exact HB.out | apply below_alloc | apply pw_below_drewN | apply below_drew1) | exact HB.out)) hb); clear HB; have HO1145 := n0_; have HB := n1_; clear n0_ n1_; (try clear hb); (try clear hb2); (try clear hk); (try clear hi); (try clear ho0); obtain ⟨Ao18, co18, eo18⟩ := Kd.R_slice HO1145.out; subst eo18; have p1146 : 0 ≤ (6 : Int) := (by omega); have q1146 : 6 < (t1142.length : Int) := of_decide_eq_true (by first | (with_reducible assumption) | assumption); obtain ⟨ad1146, e1146, hx1146_0⟩ := Kd.at_bool (Kd.R_reads' HO1145.out).2.2 6 p1146 q1146; (try rw [← Nbq7.out] at hx1146_0); cases e1146; (try simp only [show (6 : Int).toNat = 6 from rfl, Nat.reduceMul, Nat.reduceEqDiff, Go.Addr.add, ↓reduceIte] at hx1146_0); have qi1146 : (6 < t1142.length) = True := eq_true (by omega); (try rw [show ((6 : Int)).toNat = 6 from rfl] at hx1146_0); replace p1146 := eq_true p1146; replace q1146 := eq_true q1146))
          go_ret2
          exact ⟨_, by first | rfl | (simp [errW_none, errW_some] <;> rfl) | (simp [*, errW_none, errW_some] <;> rfl), by first | exact Kd.R_nil _ _ _ _ _ | exact Kd.N_nil _ _ _ _ _ | exact Kd.V_nil _ _ _ _ _ | exact Kd.Q_nil _ _ _ _ _ | exact Kd.S_nil _ _ _ _ _, by repeat (first | (with_reducible first | exact HB.out | apply below_alloc | apply pw_below_drewN | apply below_drew1) | exact HB.out)⟩
      · replace c8 := Bool.eq_false_iff.mpr c8
        subst c8
        have H1 : (some (([] : List ByteArray), false)) = some (r1, r2) := by rw [if_neg (show ¬ (false = true) by decide)] at H; exact H
        clear H
        have H := H1
        clear H1
        simp only [Option.some.injEq, Prod.mk.injEq] at H
        obtain ⟨rfl, rfl⟩ := H
        go_enter Try.func58, Try.ntmps58
        go_wp2_with (first | ((with_reducible refine gate_callee (f := 102) rfl ?_); refine goesL_ (some 12) rfl rfl Try.func102 (by kernel_rfl) rfl #[.int .i64 a0] rfl (by (try simp only [List.map_toArray, List.map_cons, List.map_nil]); first | done | rfl | (simp only [List.length_drop, List.length_take]; rfl)) ?_; (with_reducible refine (sealringref26_Of.calls a0 t1142 true _ A4.out).mono ?_); rintro e w19 ⟨v1144, rfl, ho0, hb⟩; refine ⟨_, rfl, ?_⟩; have n0_ := Aside0.mk (Kd.R_lower ho0 (below_size (by repeat (first | (with_reducible first | exact HB.out | apply below_alloc | apply pw_below_drewN | apply below_drew1) | exact HB.out)))); have n1_ := Aside0.mk (below_step (by repeat (first | (with_reducible first | exact HB.out | apply below_alloc | apply pw_below_drewN | apply below_drew1) | exact HB.out)) hb); clear HB; have HO1145 := n0_; have HB := n1_; clear n0_ n1_; (try clear hb); (try clear hb2); (try clear hk); (try clear hi); (try clear ho0); obtain ⟨Ao20, co20, eo20⟩ := Kd.R_slice HO1145.out; subst eo20; have p1146 : 0 ≤ (6 : Int) := (by omega); have q1146 : 6 < (t1142.length : Int) := of_decide_eq_true (by first | (with_reducible assumption) | assumption); obtain ⟨ad1146, e1146, hx1146_0⟩ := Kd.at_bool (Kd.R_reads' HO1145.out).2.2 6 p1146 q1146; (try rw [← Nbq7.out] at hx1146_0); cases e1146; (try simp only [show (6 : Int).toNat = 6 from rfl, Nat.reduceMul, Nat.reduceEqDiff, Go.Addr.add, ↓reduceIte] at hx1146_0); have qi1146 : (6 < t1142.length) = True := eq_true (by omega); (try rw [show ((6 : Int)).toNat = 6 from rfl] at hx1146_0); replace p1146 := eq_true p1146; replace q1146 := eq_true q1146))
        go_ret2
        exact ⟨_, by first | rfl | (simp [errW_none, errW_some] <;> rfl) | (simp [*, errW_none, errW_some] <;> rfl), by first | exact Kd.R_nil _ _ _ _ _ | exact Kd.N_nil _ _ _ _ _ | exact Kd.V_nil _ _ _ _ _ | exact Kd.Q_nil _ _ _ _ _ | exact Kd.S_nil _ _ _ _ _, by repeat (first | (with_reducible first | exact HB.out | apply below_alloc | apply pw_below_drewN | apply below_drew1) | exact HB.out)⟩
    · rw [if_neg c6] at H
      exact absurd H (by simp)
  · replace c5 := Bool.eq_false_iff.mpr c5
    subst c5
    have H1 : (some (([] : List ByteArray), false)) = some (r1, r2) := by rw [if_neg (show ¬ (false = true) by decide)] at H; exact H
    clear H
    have H := H1
    clear H1
    simp only [Option.some.injEq, Prod.mk.injEq] at H
    obtain ⟨rfl, rfl⟩ := H
    go_enter Try.func58, Try.ntmps58
    go_wp2_with (first | ((with_reducible refine gate_callee (f := 102) rfl ?_); refine goesL_ (some 12) rfl rfl Try.func102 (by kernel_rfl) rfl #[.int .i64 a0] rfl (by (try simp only [List.map_toArray, List.map_cons, List.map_nil]); first | done | rfl | (simp only [List.length_drop, List.length_take]; rfl)) ?_; (with_reducible refine (sealringref26_Of.calls a0 t1142 false _ A4.out).mono ?_); rintro e w21 ⟨v1144, rfl, ho0, hb⟩; refine ⟨_, rfl, ?_⟩; have n0_ := Aside0.mk (Kd.R_lower ho0 (below_size (by repeat (first | (with_reducible first | exact HB.out | apply below_alloc | apply pw_below_drewN | apply below_drew1) | exact HB.out)))); have n1_ := Aside0.mk (below_step (by repeat (first | (with_reducible first | exact HB.out | apply below_alloc | apply pw_below_drewN | apply below_drew1) | exact HB.out)) hb); clear HB; have HO1145 := n0_; have HB := n1_; clear n0_ n1_; (try clear hb); (try clear hb2); (try clear hk); (try clear hi); (try clear ho0)))
    go_ret2
    exact ⟨_, by first | rfl | (simp [errW_none, errW_some] <;> rfl) | (simp [*, errW_none, errW_some] <;> rfl), by first | exact Kd.R_nil _ _ _ _ _ | exact Kd.N_nil _ _ _ _ _ | exact Kd.V_nil _ _ _ _ _ | exact Kd.Q_nil _ _ _ _ _ | exact Kd.S_nil _ _ _ _ _, by repeat (first | (with_reducible first | exact HB.out | apply below_alloc | apply pw_below_drewN | apply below_drew1) | exact HB.out)⟩
end Go.Proofs.Ytbnmcnghmnhigaa.X
end
section
namespace Go.Proofs.Ytbnmcnghmnhigaa.X
open Go.RowKit Go.WideMaps Go.Maps
set_option linter.unusedVariables false
end Go.Proofs.Ytbnmcnghmnhigaa.X
end
section
namespace Go.Proofs.Ytbnmcnghmnhigaa.X
open Go.RowKit Go.Proofs.YtbnmcnghmnhigaaW.PrintWords Go.Proofs.YtbnmcnghmnhigaaW.PrintLast Go.Proofs.YtbnmcnghmnhigaaW.PrintMore Go.WideMaps Go.Maps
set_option linter.unusedVariables false
set_option linter.unusedSimpArgs false
def rawR (v : Value) : Option (DataW Value × List MemPlace) := some (.held v, [])
abbrev nilS : Value := .slice none 0 0
theorem keyT : Keyed Try.prog 9 := string_keyed Try.underlying9
theorem zeroSl (w : World) : (zeroValue 22).run Try.prog w = .ok nilS w := by kernel_rfl
structure KS (w0 W : World) (b xb : Nat) (f : List UInt8 → Value) (g : List UInt8 → List ByteArray) (N : Nat) : Prop where
  m : ∃ D : DataW Value, IsMap D ∧ W.ownsMap Try.prog 9 rawR b N D ∧ ∀ k, D.atKey (.string k) (.held nilS) = .held (f k)
  r : ∀ k, W.ownsRow w0.heap.size 9 1 (f k) (g k).length (encs Value.string (g k))
  d : ∀ k k', k ≠ k' → ∀ x, (f k).ownBlock = some x → (f k').ownBlock ≠ some x
  l : ∀ k, (g k).length ≤ N + 8
  hb : w0.heap.size ≤ b
  B : Below w0.heap.size w0 W
  nb : ∀ k q, (f k).ownBlock = some q → q ≠ xb
def upd {α : Type} (f : List UInt8 → α) (k : List UInt8) (v : α) : List UInt8 → α := fun x => if x = k then v else f x
theorem upd_same {α : Type} (f : List UInt8 → α) (k : List UInt8) (v : α) : upd f k v k = v := by unfold upd; rw [if_pos rfl]
theorem upd_other {α : Type} (f : List UInt8 → α) {k x : List UInt8} (v : α) (h : x ≠ k) : upd f k v x = f x := by unfold upd; rw [if_neg h]
section
variable {w0 W : World} {b xb N : Nat} {f : List UInt8 → Value} {g : List UInt8 → List ByteArray}
theorem KS.lt (h : KS w0 W b xb f g N) : b < W.heap.size := by obtain ⟨D, _, h1, _⟩ := h.m; exact h1.lt
theorem KS.ne (h : KS w0 W b xb f g N) (k : List UInt8) : some b ≠ (f k).ownBlock := fun e => by
  obtain ⟨cells, hc⟩ := own_typed (h.r k) b e.symm
  obtain ⟨D, _, ⟨es, clock, hm, _⟩, _⟩ := h.m
  rw [hm] at hc; cases hc
theorem KS.step {W1 : World} (h : KS w0 W b xb f g N) (hb : Below W.heap.size W W1) : KS w0 W1 b xb f g N := by
  obtain ⟨D, hi, hm, ha⟩ := h.m
  have hg : W.grownBy W1 none := ⟨hb.os, hb.tape, hb.output, hb.size, fun k hk _ => hb.block k hk⟩
  exact ⟨⟨D, hi, hm.kept hg (by simp), ha⟩, fun k => own_move (h.r k) (fun x hx => hb.block x (own_lt (h.r k) x hx)), h.d, h.l, h.hb, below_then h.B h.B.size hb, h.nb⟩
theorem look_of {D : DataW Value} (hm : W.ownsMap Try.prog 9 rawR b N D) {fv : Value} (k : ByteArray) (ha : D.atKey (.string k.data.toList) (.held nilS) = .held fv) (hk : k.size ≤ maxLen) :
    (Instr.lookup 129 (.map (some b)) (.string k) false).run Try.prog W = .ok fv W := by
  obtain ⟨v, ps, hrun, hv⟩ := hm.lookup keyT Try.underlying129 (zeroSl _) (zd := .held nilS) (zp := []) rfl (keyOf_string_mk Try.underlying9 hk)
  rw [ha] at hv
  rw [hrun]
  unfold rawR at hv
  simp only [Option.some.injEq, Prod.mk.injEq, DataW.held.injEq] at hv
  rw [hv.1]
theorem KS.look (h : KS w0 W b xb f g N) (k : ByteArray) (hk : k.size ≤ maxLen) :
    (Instr.lookup 129 (.map (some b)) (.string k) false).run Try.prog W = .ok (f k.data.toList) W := by
  obtain ⟨D, hi, hm, ha⟩ := h.m
  exact look_of hm k (ha _) hk
theorem KS.box (h : KS w0 W b xb f g N) {y : Nat} (hy : W.heap.size ≤ y) : KS w0 W b y f g N :=
  ⟨h.m, h.r, h.d, h.l, h.hb, h.B, fun k q hq e => by have := own_lt (h.r k) q hq; omega⟩
theorem KS.put {W1 : World} (h : KS w0 W b xb f g N) (hxb : xb < W.heap.size) (hN : N ≤ 1000) (k : ByteArray) (hk : k.size ≤ maxLen) {v' : Value} {l' : List ByteArray} (hg : W.grownBy W1 (f k.data.toList).ownBlock) (hB : Below w0.heap.size w0 W1)
    (ho : W1.ownsRow w0.heap.size 9 1 v' l'.length (encs Value.string l')) (hat : v'.ownBlock = (f k.data.toList).ownBlock ∨ ∃ x, v'.ownBlock = some x ∧ W.heap.size ≤ x) (hl : l'.length ≤ N + 1 + 8) :
    ∃ W2, (Instr.mapUpdate 129 (.map (some b)) (.string k) v').run Try.prog W1 = .ok () W2 ∧ KS w0 W2 b xb (upd f k.data.toList v') (upd g k.data.toList l') (N + 1) ∧ W1.grownBy W2 (some b) := by
  obtain ⟨D, hi, hm, ha⟩ := h.m
  have hne := h.ne k.data.toList
  have hm1 := hm.kept hg hne
  obtain ⟨W2, hrun, hm2, hg2⟩ := hm1.update (val := v') (d := .held v') (ps := []) keyT Try.underlying129 (by unfold maxLen; omega) (keyOf_string_mk Try.underlying9 hk) rfl
  refine ⟨W2, hrun, ⟨⟨_, hi.put _ _, hm2, fun x => ?_⟩, fun x => ?_, fun x y hxy z hz => ?_, fun x => ?_, h.hb, hB.grown hg2 hB.size (fun j hj => by cases hj; exact h.hb), fun x q hq => ?_⟩, hg2⟩
  · by_cases e : x = k.data.toList
    · subst e; rw [upd_same]; exact atKey_put_same hi (show WideAt.IsKeyLit (.string _) from trivial) _ _
    · rw [upd_other _ _ e, atKey_put_other (fun he => e (by injection he))]; exact ha x
  · have nb : ∀ {v : Value} {n : Nat} {xs : List Value}, W1.ownsRow w0.heap.size 9 1 v n xs → W2.ownsRow w0.heap.size 9 1 v n xs := fun ho => own_move ho (fun q hq => hg2.block q (own_lt ho q hq) (fun e => by
      obtain ⟨cells, hc⟩ := own_typed ho q hq
      obtain ⟨es, clock, hm3, _⟩ := hm1
      cases e
      rw [hm3] at hc; cases hc))
    by_cases e : x = k.data.toList
    · subst e; rw [upd_same, upd_same]; exact nb ho
    · rw [upd_other _ _ e, upd_other _ _ e]
      exact nb (own_move (h.r x) (fun q hq => hg.block q (own_lt (h.r x) q hq) (fun e2 => h.d x _ e q hq e2.symm)))
  · have fresh : ∀ y q, (f y).ownBlock = some q → y ≠ k.data.toList → v'.ownBlock ≠ some q := fun y q hq hy e => by
      rcases hat with hat | ⟨z, hz, hge⟩
      · rw [hat] at e; exact h.d y _ hy q hq e
      · rw [hz] at e; cases e; have := own_lt (h.r y) q hq; omega
    by_cases e : x = k.data.toList
    · subst e
      rw [upd_same] at hz
      rw [upd_other _ _ (fun e => hxy e.symm)]
      intro hy
      exact fresh y z hy (fun e => hxy e.symm) hz
    · rw [upd_other _ _ e] at hz
      by_cases e2 : y = k.data.toList
      · subst e2; rw [upd_same]; exact fresh x z hz e
      · rw [upd_other _ _ e2]; exact h.d x y hxy z hz
  · by_cases e : x = k.data.toList
    · subst e; rw [upd_same]; exact hl
    · rw [upd_other _ _ e]; have := h.l x; omega
  · by_cases e : x = k.data.toList
    · subst e
      rw [upd_same] at hq
      rcases hat with hat | ⟨z, hz, hge⟩
      · rw [hat] at hq; exact h.nb _ _ hq
      · rw [hz] at hq; cases hq; omega
    · rw [upd_other _ _ e] at hq; exact h.nb _ _ hq
end
theorem R_of_own' {w : World} {base : Nat} {v : Value} {xs : List ByteArray} (ho : w.ownsRow base 9 1 v xs.length (encs Value.string xs)) : Kd.string.R 9 w base (fun _ => True) v xs := Kd.R_of_own ho (fun _ _ => trivial)
theorem own_of_R' {w : World} {base : Nat} {v : Value} {xs : List ByteArray} (h : Kd.string.R 9 w base (fun _ => True) v xs) : w.ownsRow base 9 1 v xs.length (encs Value.string xs) := Kd.own_of_R h
def Far (W W' : World) (b : Nat) (v : Value) : Prop := W.heap.size ≤ W'.heap.size ∧ ∀ x, x < W.heap.size → x ≠ b → v.ownBlock ≠ some x → W'.heap[x]? = W.heap[x]?
set_option maxHeartbeats 1600000 in
theorem more_no (kind key : ByteArray) (bx : Addr) (w : World) :
    Calls Try.prog 103 #[.string kind, .string key, .bool false, .pointer (some bx)] w fun e w' => e = .returned (.tuple #[]) ∧ w' = w := by
  go_enter Try.func103, Try.ntmps103
  go_wp2
  go_end0
  exact ⟨rfl, rfl⟩
theorem cell_of_block {W W1 : World} {a : Addr} (h : W1.heap[a.block]? = W.heap[a.block]?) : W1.cell? a = W.cell? a := by
  unfold World.cell?
  rw [h]
set_option maxHeartbeats 3200000 in
set_option maxRecDepth 100000 in
theorem more_yes (kind key : ByteArray) (bx : Addr) (b N : Nat) (f : List UInt8 → Value) (g : List UInt8 → List ByteArray) (w0 w : World) (h : KS w0 w b bx.block f g N) (hN : N ≤ 1000) (hbx : w.cell? bx = some (.map (some b))) (hk : kind.size ≤ maxLen) :
    Calls Try.prog 103 #[.string kind, .string key, .bool true, .pointer (some bx)] w fun e w' => e = .returned (.tuple #[]) ∧ ∃ v', KS w0 w' b bx.block (upd f kind.data.toList v') (upd g kind.data.toList (g kind.data.toList ++ [key])) (N + 1) ∧ Far w w' b (f kind.data.toList) ∧ w'.cell? bx = some (.map (some b)) ∧ (v'.ownBlock = (f kind.data.toList).ownBlock ∨ ∃ x, v'.ownBlock = some x ∧ w.heap.size ≤ x) := by
  have hS0 : w.drew.cell? bx = some (.map (some b)) ∧ KS w0 w.drew b bx.block f g N := ⟨hbx, h.step (below_drew (Below.refl _ _))⟩
  have HF := Aside0.mk (below_drew (Below.refl w.heap.size w))
  have hlt0 : bx.block < w.drew.heap.size := World.block_lt_of_cell? _ _ hS0.1
  have hbb : bx.block ≠ b := fun e => by
    obtain ⟨D, _, ⟨es, clock, hm, _⟩, _⟩ := hS0.2.m
    have h1 := hS0.1
    unfold World.cell? at h1
    rw [e, hm] at h1
    simp at h1
  have hlk0 := hS0.2.look kind hk
  generalize hfv : f kind.data.toList = fv
  rw [hfv] at hlk0
  clear h hbx
  go_enter Try.func103, Try.ntmps103
  go_wp2
  refine start_ (n := 9) (S := fun W => W.cell? bx = some (.map (some b)) ∧ (Instr.lookup 129 (.map (some b)) (.string kind) false).run Try.prog W = .ok fv W) (ds := [8]) #[false, false, false, false, false, false, false, false, false] (by kernel_rfl) rfl rfl ⟨hS0.1, hlk0⟩ (fun hHeld => ?_)
  have hks := hS0.2
  have hBw := HF.out
  clear hS0 HF hlk0
  generalize w.drew = W at hks hBw hHeld hlt0 ⊢
  refine pure_ (i := 1) (N := some 9) (v := ?_) (a' := ?_) #[false, true, false, false, false, false, false, false, false] rfl rfl (by kernel_rfl) (fun _ _ _ h => h) (Or.inl ⟨by rfl, ?_⟩) ?_ ?_
  rotate_left
  · intro w'
    go_simp
    with_reducible rfl
  rotate_left
  · simp only [Act.put, List.setIfInBounds_toArray, List.set_cons_zero, List.set_cons_succ]
    rfl
  refine pure_ (i := 3) (N := some 11) (v := ?_) (a' := ?_) #[false, true, false, true, false, false, false, false, false] rfl rfl (by kernel_rfl) (fun _ _ _ h => h) (Or.inl ⟨by rfl, ?_⟩) ?_ ?_
  rotate_left
  · intro w'
    go_simp
    with_reducible rfl
  rotate_left
  · simp only [Act.put, List.setIfInBounds_toArray, List.set_cons_zero, List.set_cons_succ]
    rfl
  refine pure_ (i := 5) (N := some 13) (v := ?_) (a' := ?_) #[false, true, false, true, false, true, false, false, false] rfl rfl (by kernel_rfl) (fun _ _ _ h => h) (Or.inl ⟨by rfl, ?_⟩) ?_ ?_
  rotate_left
  · intro w'
    go_simp
    with_reducible rfl
  rotate_left
  · simp only [Act.put, List.setIfInBounds_toArray, List.set_cons_zero, List.set_cons_succ]
    rfl
  refine take_ (i := 0) (N := some 8) (v := ?_) (a' := ?_) #[true, true, false, true, false, true, false, false, false] rfl rfl (by kernel_rfl) (fun _ _ _ h => h) (Or.inl ⟨by rfl, ?_⟩) hHeld ?_ ?_
  rotate_left
  · rintro w' ⟨s0, s1⟩
    go_simp
    with_reducible rfl
  rotate_left
  · simp only [Act.put, List.setIfInBounds_toArray, List.set_cons_zero, List.set_cons_succ]
    rfl
  refine take_ (i := 2) (N := some 10) (v := ?_) (a' := ?_) #[true, true, true, true, false, true, false, false, false] rfl rfl (by kernel_rfl) (fun _ _ _ h => h) (Or.inl ⟨by rfl, ?_⟩) hHeld ?_ ?_
  rotate_left
  · rintro w' ⟨s0, s1⟩
    go_simp
    with_reducible rfl
  rotate_left
  · simp only [Act.put, List.setIfInBounds_toArray, List.set_cons_zero, List.set_cons_succ]
    rfl
  refine take_ (i := 4) (N := some 12) (v := ?_) (a' := ?_) #[true, true, true, true, true, true, false, false, false] rfl rfl (by kernel_rfl) (fun _ _ _ h => h) (Or.inl ⟨by rfl, ?_⟩) hHeld ?_ ?_
  rotate_left
  · rintro w' ⟨s0, s1⟩
    go_simp
    with_reducible rfl
  rotate_left
  · simp only [Act.put, List.setIfInBounds_toArray, List.set_cons_zero, List.set_cons_succ]
    rfl
  refine one_ (i := 6) (N := some 14) #[true, true, true, true, true, true, true, false, false] rfl rfl (by kernel_rfl) (by decide) (fun K hK => ?_)
  have hks1 := hks.step (below_alloc (Below.refl _ W) (.cells #[.string key] 9))
  have hlk1 := hks1.look kind hk
  rw [hfv] at hlk1
  have hc1 : (W.alloc (.cells #[.string key] 9)).cell? bx = some (.map (some b)) := (World.cell?_alloc_lt _ _ _ hlt0).trans hHeld.1
  refine value_ (w1 := W.alloc (.cells #[.string key] 9)) (v := .slice (some ⟨W.heap.size, 0, none⟩) 1 1) (by rfl) rfl ?_ ?_
  · go_simp
  refine hK.out _ _ ⟨hc1, hlk1⟩ (fun hHeld2 => ?_)
  clear hK K
  have hcW := hHeld.1
  clear hHeld
  refine norm_ (a' := ?_) ?_ ?_
  rotate_left
  · show Act.put _ (some 14) _ = _
    simp only [Act.put, List.setIfInBounds_toArray, List.set_cons_zero, List.set_cons_succ]
    rfl
  refine one_ (i := 7) (N := some 15) #[true, true, true, true, true, true, true, true, false] rfl rfl (by kernel_rfl) (by decide) (fun K hK => ?_)
  have hown := hks.r kind.data.toList
  rw [hfv] at hown
  have hgl := hks.l kind.data.toList
  have hne := hks.ne kind.data.toList
  rw [hfv] at hne
  have hnb := hks.nb kind.data.toList
  rw [hfv] at hnb
  refine Kd.R_append_step Kd.string (w0 := w0) w0.heap.size (by rfl) (.tmp 12) (.tmp 14) 22 9 (.string ⟨#[]⟩) 16 rfl Try.underlying22 info9 rfl (by decide) (by omega) fv (g kind.data.toList) key [.string key] (fun _ => True) (fun _ => False) rfl rfl ?aP (fun _ hk => hk.elim) (fun _ _ => trivial) ?aO hks.B hks.B.size ?aL ?_
  (case aP => exact rfl)
  (case aO => exact R_of_own' hown)
  (case aL => omega)
  intro v1 w1 hR1 hB1 hg1 hat1
  have hc2 : w1.cell? bx = some (.map (some b)) := (cell_of_block (hg1.block _ hlt0 (fun e => hnb _ e.symm rfl))).trans hcW
  have hlk2 : (Instr.lookup 129 (.map (some b)) (.string kind) false).run Try.prog w1 = .ok fv w1 := by
    obtain ⟨D, hi, hm, ha⟩ := hks.m
    rw [← hfv]
    exact look_of (hm.kept hg1 hne) kind (ha _) hk
  refine hK.out _ _ ⟨hc2, hlk2⟩ (fun _ => ?_)
  clear hK K
  obtain ⟨W2, hrun, hks2, hg2⟩ := hks.put hlt0 hN kind hk (v' := v1) (l' := g kind.data.toList ++ [key]) (by rw [hfv]; exact hg1) hB1 (own_of_R' hR1) (by rw [hfv]; exact hat1) (by rw [List.length_append, List.length_singleton]; omega)
  have hfar : Far w W2 b fv := ⟨Nat.le_trans hBw.size (Nat.le_trans hg1.size hg2.size), fun x hx hxb hxo => by
    rw [hg2.block x (by have := hBw.size; have := hg1.size; omega) (fun e => hxb (by cases e; rfl)), hg1.block x (by have := hBw.size; omega) (fun e => hxo e.symm)]
    exact hBw.block x hx⟩
  have hc3 : W2.cell? bx = some (.map (some b)) := (cell_of_block (hg2.block _ (World.block_lt_of_cell? _ _ hc2) (fun e => hbb (by cases e; rfl)))).trans hc2
  have HR2 := Aside0.mk hks2
  have HFAR := Aside0.mk hfar
  have HC3 := Aside0.mk hc3
  have HAT : Aside0 (v1.ownBlock = fv.ownBlock ∨ ∃ x, v1.ownBlock = some x ∧ w.heap.size ≤ x) := ⟨by
    rcases hat1 with e | ⟨x, e, hx⟩
    · exact .inl e
    · exact .inr ⟨x, e, Nat.le_trans hBw.size hx⟩⟩
  clear hks2 hfar hR1 hB1 hg1 hat1 hg2 hc3 hc2 hlk2 hne hnb hown hks hks1 hHeld2 hc1 hBw hcW
  refine norm_ (a' := ?_) ?_ ?_
  rotate_left
  · show Act.put _ (some 15) _ = _
    simp only [Act.put, List.setIfInBounds_toArray, List.set_cons_zero, List.set_cons_succ]
    rfl
  refine last_ (i := 8) (N := none) #[true, true, true, true, true, true, true, true, true] rfl rfl (by kernel_rfl) (by decide) (fun K hK => ?_)
  refine skip_ (w1 := W2) (by rfl) rfl ?_ ?_
  · go_simp
  refine hK.out _ _ ?_
  clear hK K
  refine done_ (by kernel_rfl) ?_
  go_wp2
  go_end0
  exact ⟨rfl, v1, HR2.out, HFAR.out, HC3.out, HAT.out⟩
end Go.Proofs.Ytbnmcnghmnhigaa.X
end
section
namespace Go.Proofs
open Go.Shelf
def Try.lays190_ren : Go.Shelf.Ren := ⟨fun | 190 => 101 | 125 => 130 | 258 => 129 | 128 => 154 | 129 => 155 | 302 => 145 | 303 => 146 | 304 => 147 | 305 => 148 | 306 => 149 | 307 => 150 | 308 => 151 | 309 => 152 | 310 => 153 | 333 => 161 | 329 => 162 | 330 => 163 | 334 => 164 | 335 => 165 | 336 => 166 | 344 => 173 | n => n, fun | 31 => 22 | 9 => 9 | 3 => 3 | 46 => 156 | 0 => 0 | 51 => 177 | 53 => 179 | 4 => 4 | 183 => 170 | 182 => 169 | 131 => 174 | 5 => 5 | 218 => 185 | 222 => 189 | 228 => 195 | 229 => 196 | n => n, fun | n => n⟩
theorem Try.lays190 : Go.Proofs.Lays.n190 Try.prog Try.lays190_ren := {
  mixed := by kernel_rfl
  f125 := Try.func130.trans (congrArg some (by kernel_rfl))
  f128 := Try.func154.trans (congrArg some (by kernel_rfl))
  f129 := Try.func155.trans (congrArg some (by kernel_rfl))
  f190 := Try.func101.trans (congrArg some (by kernel_rfl))
  f258 := Try.func129.trans (congrArg some (by kernel_rfl))
  f302 := Try.func145.trans (congrArg some (by kernel_rfl))
  f303 := Try.func146.trans (congrArg some (by kernel_rfl))
  f304 := Try.func147.trans (congrArg some (by kernel_rfl))
  f305 := Try.func148.trans (congrArg some (by kernel_rfl))
  f306 := Try.func149.trans (congrArg some (by kernel_rfl))
  f307 := Try.func150.trans (congrArg some (by kernel_rfl))
  f308 := Try.func151.trans (congrArg some (by kernel_rfl))
  f309 := Try.func152.trans (congrArg some (by kernel_rfl))
  f310 := Try.func153.trans (congrArg some (by kernel_rfl))
  f329 := Try.func162.trans (congrArg some (by kernel_rfl))
  f330 := Try.func163.trans (congrArg some (by kernel_rfl))
  f333 := Try.func161.trans (congrArg some (by kernel_rfl))
  f334 := Try.func164.trans (congrArg some (by kernel_rfl))
  f335 := Try.func165.trans (congrArg some (by kernel_rfl))
  f336 := Try.func166.trans (congrArg some (by kernel_rfl))
  f344 := Try.func173.trans (congrArg some (by kernel_rfl))
  t0 := Try.underlying0
  a0 := Try.isAgg0
  z0 := Try.sizeOf0
  v0 := Try.zeroValue0
  t3 := Try.underlying3
  a3 := Try.isAgg3
  z3 := Try.sizeOf3
  v3 := Try.zeroValue3
  t4 := Try.underlying4
  a4 := Try.isAgg4
  z4 := Try.sizeOf4
  v4 := Try.zeroValue4
  t5 := Try.underlying5
  a5 := Try.isAgg5
  z5 := Try.sizeOf5
  v5 := Try.zeroValue5
  t9 := Try.underlying9
  a9 := Try.isAgg9
  z9 := Try.sizeOf9
  v9 := Try.zeroValue9
  t31 := Try.underlying22
  a31 := Try.isAgg22
  z31 := Try.sizeOf22
  v31 := Try.zeroValue22
  t46 := Try.underlying156
  a46 := Try.isAgg156
  z46 := Try.sizeOf156
  v46 := Try.zeroValue156
  t51 := Try.underlying177
  a51 := Try.isAgg177
  z51 := Try.sizeOf177
  v51 := Try.zeroValue177
  t53 := Try.underlying179
  a53 := Try.isAgg179
  z53 := Try.sizeOf179
  v53 := Try.zeroValue179
  t131 := Try.underlying174
  a131 := Try.isAgg174
  z131 := Try.sizeOf174
  v131 := Try.zeroValue174
  t182 := Try.underlying169
  a182 := Try.isAgg169
  z182 := Try.sizeOf169
  v182 := Try.zeroValue169
  t183 := Try.underlying170
  a183 := Try.isAgg170
  z183 := Try.sizeOf170
  v183 := Try.zeroValue170
  t218 := Try.underlying185
  a218 := Try.isAgg185
  z218 := Try.sizeOf185
  v218 := Try.zeroValue185
  t222 := Try.underlying189
  a222 := Try.isAgg189
  z222 := Try.sizeOf189
  v222 := Try.zeroValue189
  t228 := Try.underlying195
  a228 := Try.isAgg195
  z228 := Try.sizeOf195
  v228 := Try.zeroValue195
  t229 := Try.underlying196
  a229 := Try.isAgg196
  z229 := Try.sizeOf196
  v229 := Try.zeroValue196 }
open Go.Sort Go.RowKit in
theorem Try.slices_Sort_string (blk off cap : Nat) (ss : List (List UInt8)) (w : World) (hH : Holds encStr w blk off ss.toArray) (hblk : blk < w.heap.size) (hsz : ss.length < 4611686018427387904) :
    Calls Try.prog 101 #[.slice (some ⟨blk, off, none⟩) ss.length cap] w fun e w' =>
      e = .returned (.tuple #[]) ∧ ∃ n os, w' = grow (putRow encStr (Sort.ahead w n) blk off (ss.mergeSort fun x y => decide (x ≤ y)).toArray) os := Any.slices_Sort_string Try.lays190 blk off cap ss w hH hblk hsz
open Go.RowKit Go.Sort in
theorem Try.slices_Sort_string_none (p : Option Addr) (cap : Nat) (w : World) :
    Calls Try.prog 101 #[.slice p 0 cap] w fun e w' => e = .returned (.tuple #[]) ∧ w' = w := Any.slices_Sort_string_none Try.lays190 p cap w
end Go.Proofs
end
section
namespace Go.Proofs.Ytbnmcnghmnhigaa.X
open Go.RowKit Go.Proofs.YtbnmcnghmnhigaaW.PrintWords Go.Proofs.YtbnmcnghmnhigaaW.PrintLast Go.Proofs.YtbnmcnghmnhigaaW.PrintMore Go.WideMaps Go.Maps
set_option linter.unusedVariables false
set_option linter.unusedSimpArgs false
def sortB (l : List ByteArray) : List ByteArray := ((l.map (·.data.toList)).mergeSort fun x y => decide (x ≤ y)).map fun b => ⟨b.toArray⟩
theorem encs_str (l : List ByteArray) : encs Value.string l = (l.map (·.data.toList)).map Go.Proofs.encStr := by
  rw [List.map_map]
  rfl
theorem encs_sortB (l : List ByteArray) : encs Value.string (sortB l) = ((l.map (·.data.toList)).mergeSort fun x y => decide (x ≤ y)).map Go.Proofs.encStr := by
  unfold sortB
  show List.map _ (List.map _ _) = _
  rw [List.map_map]
  rfl
theorem sortB_length (l : List ByteArray) : (sortB l).length = l.length := by unfold sortB; simp
theorem sort_own {base : Nat} {v : Value} {xs : List ByteArray} (w : World) (h : w.ownsRow base 9 1 v xs.length (encs Value.string xs)) (hl : xs.length < 4611686018427387904) :
    Calls Try.prog 101 #[v] w fun e w' => e = .returned (.tuple #[]) ∧ w'.ownsRow base 9 1 v (sortB xs).length (encs Value.string (sortB xs)) ∧ w.grownBy w' v.ownBlock := by
  rcases h.2 with ⟨rfl, h0⟩ | ⟨g, cap, cur, rfl, hbase, hb, h1, h2, h3, h4⟩
  · refine (Try.slices_Sort_string_none none 0 w).mono ?_
    rintro e w' ⟨rfl, rfl⟩
    have hx : xs = [] := List.length_eq_zero_iff.1 h0
    subst hx
    have hs : sortB [] = [] := List.length_eq_zero_iff.1 (by rw [sortB_length]; rfl)
    rw [hs]
    exact ⟨rfl, h, ⟨rfl, rfl, rfl, Nat.le_refl _, fun _ _ _ => rfl⟩⟩
  · have hm : xs.length = (xs.map (·.data.toList)).length := by simp
    have hw := Try.slices_Sort_string g 0 cap (xs.map (·.data.toList)) w (holds_of_block hb (by rw [← hm, ← encs_str, ← h4, Nat.mul_one])) (blk_lt hb) (by rw [← hm]; exact hl)
    rw [← hm] at hw
    refine hw.mono ?_
    rintro e w' ⟨rfl, n, os, rfl⟩
    refine ⟨rfl, ?_, grownBy_sorted _⟩
    rw [encs_sortB, sortB_length]
    have := ownsRow_sorted (os := os) (n := n) (ss := xs.map (·.data.toList)) (ts := (xs.map (·.data.toList)).mergeSort fun x y => decide (x ≤ y)) (by simp) hbase hb (by rw [← hm]; exact h1) h2 h3
    rw [← hm] at this
    exact this
def addG (g : List UInt8 → List ByteArray) (k : ByteArray) (x : ByteArray) (yes : Bool) : List UInt8 → List ByteArray := if yes = true then upd g k.data.toList (g k.data.toList ++ [x]) else g
def KX (w0 W : World) (gb b xb : Nat) (cs : Array Value) (g : List UInt8 → List ByteArray) (N : Nat) : Prop :=
  ∃ f n, n ≤ N ∧ KS w0 W b xb f g n ∧ (∀ k q, (f k).ownBlock = some q → q ≠ gb) ∧ W.heap[gb]? = some (.cells cs 123 (0, 0))
section
variable {w0 W : World} {gb b xb N : Nat} {cs : Array Value} {g : List UInt8 → List ByteArray}
theorem KX.step {W1 : World} (h : KX w0 W gb b xb cs g N) (hb : Below W.heap.size W W1) : KX w0 W1 gb b xb cs g N := by
  obtain ⟨f, n, hn, hk, hg, hc⟩ := h
  exact ⟨f, n, hn, hk.step hb, hg, blk_below hc hb⟩
theorem KX.cell (h : KX w0 W gb b xb cs g N) (i : Nat) : W.cell? ⟨gb, i, none⟩ = cs[i]? := by
  obtain ⟨f, n, hn, hk, hg, hc⟩ := h
  exact blk_cell hc i
theorem KX.box (h : KX w0 W gb b xb cs g N) {y : Nat} (hy : W.heap.size ≤ y) : KX w0 W gb b y cs g N := by
  obtain ⟨f, n, hn, hk, hg, hc⟩ := h
  exact ⟨f, n, hn, hk.box hy, hg, hc⟩
theorem KX.B (h : KX w0 W gb b xb cs g N) : Below w0.heap.size w0 W := by
  obtain ⟨f, n, hn, hk, hg, hc⟩ := h
  exact hk.B
theorem KX.lit (h : KX w0 W gb b b cs g N) (hN : N ≤ 1000) (k : ByteArray) (hk : k.size ≤ maxLen) (l : List ByteArray) (hl : l.length ≤ 8) (h0 : l ≠ []) :
    ∃ W2, (Instr.mapUpdate 129 (.map (some b)) (.string k) (.slice (some ⟨W.heap.size, 0, none⟩) l.length l.length)).run Try.prog (W.alloc (.cells (l.map Value.string).toArray 9)) = .ok () W2 ∧ KX w0 W2 gb b b cs (upd g k.data.toList l) (N + 1) := by
  obtain ⟨f, n, hn, hks, hg, hc⟩ := h
  have hgb : b ≠ gb := fun e => by
    obtain ⟨D, _, ⟨es, clock, hm, _⟩, _⟩ := hks.m
    rw [e, hc] at hm
    cases hm
  have hown : (W.alloc (.cells (l.map Value.string).toArray 9)).ownsRow w0.heap.size 9 1 (.slice (some ⟨W.heap.size, 0, none⟩) l.length l.length) l.length (encs Value.string l) :=
    ⟨by rw [Nat.mul_one]; exact List.length_map _, .inr ⟨W.heap.size, l.length, _, rfl, hks.B.size, blk_new _ _, Nat.le_refl _, by unfold maxLen; omega, by simp, by rw [Nat.mul_one]; exact List.take_of_length_le (by simp)⟩⟩
  have hgr : W.grownBy (W.alloc (.cells (l.map Value.string).toArray 9)) (f k.data.toList).ownBlock := ⟨rfl, rfl, rfl, by unfold World.alloc; simp, fun x hx _ => Below.heap_alloc W _ x hx⟩
  obtain ⟨W2, hrun, hks2, hg2⟩ := hks.put hks.lt (by omega) k hk (v' := .slice (some ⟨W.heap.size, 0, none⟩) l.length l.length) (l' := l) hgr (below_alloc hks.B _) hown (.inr ⟨_, rfl, Nat.le_refl _⟩) (by omega)
  refine ⟨W2, hrun, _, n + 1, by omega, hks2, fun x q hq => ?_, ?_⟩
  · by_cases e : x = k.data.toList
    · subst e
      rw [upd_same] at hq
      have e1 : W.heap.size = q := Option.some.inj hq
      have := blk_lt hc
      omega
    · rw [upd_other _ _ e] at hq
      exact hg x q hq
  · exact blk_grown (blk_alloc hc _) hg2 (fun e => hgb (by cases e; rfl))
theorem wpList_lit {ops : Array Oper} {rest : List Oper} {o : Oper} {a : Act} {Q : Exit → Act → World → Prop} (h : KX w0 W gb b b cs g N) (hN : N ≤ 1000) (k : ByteArray) (hk : k.size ≤ maxLen) (l : List ByteArray) (hl : l.length ≤ 8) (h0 : l ≠ [])
    (hg : o.guard = none) (m x v : Operand) (hop : o.op = Op.insert 129 m x v) (hm : a.eval m = .map (some b)) (hx : a.eval x = .string k) (hv : a.eval v = .slice (some ⟨W.heap.size, 0, none⟩) l.length l.length) {cells : Array Value} (hcs : cells = (l.map Value.string).toArray)
    (hK : ∀ w', KX w0 w' gb b b cs (upd g k.data.toList l) (N + 1) → wpList Try.prog ops Q rest (a.put o.dst undef) w') : wpList Try.prog ops Q (o :: rest) a (W.alloc (.cells cells 9)) := by
  subst hcs
  refine wpList_plain hg fun K' hK' => ?_
  obtain ⟨w', hrun, r1⟩ := h.lit hN k hk l hl h0
  unfold Oper.wp
  simp [execOp, hop, hm, hx, hv, hrun, Result.andThen]
  exact hK' _ _ (hK w' r1)
theorem more_all (kind key : ByteArray) (yes : Bool) (bx : Addr) (h : KX w0 W gb b bx.block cs g N) (hN : N ≤ 1000) (hbx : W.cell? bx = some (.map (some b))) (hk : kind.size ≤ maxLen) :
    Calls Try.prog 103 #[.string kind, .string key, .bool yes, .pointer (some bx)] W fun e w' => e = .returned (.tuple #[]) ∧ KX w0 w' gb b bx.block cs (addG g kind key yes) (N + 1) ∧ w'.cell? bx = some (.map (some b)) := by
  cases yes with
  | false =>
    refine (more_no kind key bx W).mono ?_
    rintro e w' ⟨rfl, rfl⟩
    obtain ⟨f, n, hn, hks, hg, hc⟩ := h
    exact ⟨rfl, ⟨f, n, by omega, hks, hg, hc⟩, hbx⟩
  | true =>
    obtain ⟨f, n, hn, hks, hg, hc⟩ := h
    refine (more_yes kind key bx b n f g w0 W hks (by omega) hbx hk).mono ?_
    rintro e w' ⟨rfl, v', hks', hfar, hbx', hat⟩
    have hgb : gb ≠ b := fun e => by
      obtain ⟨D, _, ⟨es, clock, hm, _⟩, _⟩ := hks.m
      rw [← e, hc] at hm
      cases hm
    refine ⟨rfl, ⟨_, n + 1, by omega, hks', fun x q hq => ?_, ?_⟩, hbx'⟩
    · by_cases e : x = kind.data.toList
      · subst e
        rw [upd_same] at hq
        rcases hat with e | ⟨y, e, hy⟩
        · rw [e] at hq; exact hg _ q hq
        · rw [e] at hq; cases hq; have := blk_lt hc; omega
      · rw [upd_other _ _ e] at hq
        exact hg x q hq
    · exact (hfar.2 gb (blk_lt hc) hgb (fun e => hg _ _ e rfl)).trans hc
end
end Go.Proofs.Ytbnmcnghmnhigaa.X
end
section
namespace Go.Proofs.Ytbnmcnghmnhigaa.X
open Go.RowKit Go.Proofs.YtbnmcnghmnhigaaW.PrintWords Go.Proofs.YtbnmcnghmnhigaaW.PrintLast
set_option linter.unusedVariables false
theorem evPos {α : Type} {c : Prop} [Decidable c] {f g : Nat → Option α} {r : α} (h : c) (k : Ev f r) : Ev (fun n => if c then f n else g n) r := by
  simpa only [if_pos h] using k
theorem evNeg {α : Type} {c : Prop} [Decidable c] {f g : Nat → Option α} {r : α} (h : ¬ c) (k : Ev g r) : Ev (fun n => if c then f n else g n) r := by
  simpa only [if_neg h] using k
theorem w64 {x : Int} (h0 : -9223372036854775808 ≤ x) (h1 : x ≤ 9223372036854775807) : wrap64 x = x := by unfold wrap64; omega
theorem w64s (i : Nat) (h : i ≤ 9223372036854775806) : wrap64 ((i : Int) + 1) = ((i + 1 : Nat) : Int) := by unfold wrap64; omega
end Go.Proofs.Ytbnmcnghmnhigaa.X
end
section
namespace Go.Proofs.Ytbnmcnghmnhigaa.X
open Go.RowKit Go.Proofs.YtbnmcnghmnhigaaW.PrintWords Go.Proofs.YtbnmcnghmnhigaaW.PrintLast Go.Proofs.YtbnmcnghmnhigaaW.PrintMore Go.WideMaps Go.Maps
set_option linter.unusedVariables false
set_option linter.unusedSimpArgs false
abbrev keepL0 : List ByteArray := [(⟨#[109, 101, 109, 98, 101, 114, 115, 104, 105, 112]⟩ : ByteArray)]
abbrev keepK0 : ByteArray := (⟨#[109, 46, 114, 111, 111, 109, 46, 109, 101, 109, 98, 101, 114]⟩ : ByteArray)
abbrev keepL1 : List ByteArray := [(⟨#[99, 114, 101, 97, 116, 111, 114]⟩ : ByteArray)]
abbrev keepK1 : ByteArray := (⟨#[109, 46, 114, 111, 111, 109, 46, 99, 114, 101, 97, 116, 101]⟩ : ByteArray)
abbrev keepL2 : List ByteArray := [(⟨#[106, 111, 105, 110, 95, 114, 117, 108, 101]⟩ : ByteArray)]
abbrev keepK2 : ByteArray := (⟨#[109, 46, 114, 111, 111, 109, 46, 106, 111, 105, 110, 95, 114, 117, 108, 101, 115]⟩ : ByteArray)
abbrev keepL3 : List ByteArray := [(⟨#[98, 97, 110]⟩ : ByteArray), (⟨#[101, 118, 101, 110, 116, 115]⟩ : ByteArray), (⟨#[101, 118, 101, 110, 116, 115, 95, 100, 101, 102, 97, 117, 108, 116]⟩ : ByteArray), (⟨#[107, 105, 99, 107]⟩ : ByteArray), (⟨#[114, 101, 100, 97, 99, 116]⟩ : ByteArray), (⟨#[115, 116, 97, 116, 101, 95, 100, 101, 102, 97, 117, 108, 116]⟩ : ByteArray), (⟨#[117, 115, 101, 114, 115]⟩ : ByteArray), (⟨#[117, 115, 101, 114, 115, 95, 100, 101, 102, 97, 117, 108, 116]⟩ : ByteArray)]
abbrev keepK3 : ByteArray := (⟨#[109, 46, 114, 111, 111, 109, 46, 112, 111, 119, 101, 114, 95, 108, 101, 118, 101, 108, 115]⟩ : ByteArray)
abbrev keepL4 : List ByteArray := [(⟨#[104, 105, 115, 116, 111, 114, 121, 95, 118, 105, 115, 105, 98, 105, 108, 105, 116, 121]⟩ : ByteArray)]
abbrev keepK4 : ByteArray := (⟨#[109, 46, 114, 111, 111, 109, 46, 104, 105, 115, 116, 111, 114, 121, 95, 118, 105, 115, 105, 98, 105, 108, 105, 116, 121]⟩ : ByteArray)
abbrev keepM0 : ByteArray := (⟨#[109, 46, 114, 111, 111, 109, 46, 109, 101, 109, 98, 101, 114]⟩ : ByteArray)
abbrev keepX0 : ByteArray := (⟨#[106, 111, 105, 110, 95, 97, 117, 116, 104, 111, 114, 105, 115, 101, 100, 95, 118, 105, 97, 95, 117, 115, 101, 114, 115, 95, 115, 101, 114, 118, 101, 114]⟩ : ByteArray)
abbrev keepM1 : ByteArray := (⟨#[109, 46, 114, 111, 111, 109, 46, 109, 101, 109, 98, 101, 114]⟩ : ByteArray)
abbrev keepX1 : ByteArray := (⟨#[116, 104, 105, 114, 100, 95, 112, 97, 114, 116, 121, 95, 105, 110, 118, 105, 116, 101]⟩ : ByteArray)
abbrev keepM2 : ByteArray := (⟨#[109, 46, 114, 111, 111, 109, 46, 106, 111, 105, 110, 95, 114, 117, 108, 101, 115]⟩ : ByteArray)
abbrev keepX2 : ByteArray := (⟨#[97, 108, 108, 111, 119]⟩ : ByteArray)
abbrev keepM3 : ByteArray := (⟨#[109, 46, 114, 111, 111, 109, 46, 112, 111, 119, 101, 114, 95, 108, 101, 118, 101, 108, 115]⟩ : ByteArray)
abbrev keepX3 : ByteArray := (⟨#[105, 110, 118, 105, 116, 101]⟩ : ByteArray)
abbrev keepM4 : ByteArray := (⟨#[109, 46, 114, 111, 111, 109, 46, 97, 108, 105, 97, 115, 101, 115]⟩ : ByteArray)
abbrev keepX4 : ByteArray := (⟨#[97, 108, 105, 97, 115, 101, 115]⟩ : ByteArray)
abbrev keepM5 : ByteArray := (⟨#[109, 46, 114, 111, 111, 109, 46, 114, 101, 100, 97, 99, 116, 105, 111, 110]⟩ : ByteArray)
abbrev keepX5 : ByteArray := (⟨#[114, 101, 100, 97, 99, 116, 115]⟩ : ByteArray)
def keepG1 : List UInt8 → List ByteArray := upd (fun _ => []) keepK0.data.toList keepL0
def keepG2 : List UInt8 → List ByteArray := upd keepG1 keepK1.data.toList keepL1
def keepG3 : List UInt8 → List ByteArray := upd keepG2 keepK2.data.toList keepL2
def keepG4 : List UInt8 → List ByteArray := upd keepG3 keepK3.data.toList keepL3
def keepG5 : List UInt8 → List ByteArray := upd keepG4 keepK4.data.toList keepL4
def keepG (r3 r4 r5 r6 : Bool) : List UInt8 → List ByteArray := (addG (addG (addG (addG (addG (addG keepG5 keepM0 keepX0 r5) keepM1 keepX1 r6) keepM2 keepX2 r4) keepM3 keepX3 r6) keepM4 keepX4 r3) keepM5 keepX5 r6)
def keep_Content.f (a0 : Int) (a1 : ByteArray) : Option (List ByteArray × Bool) :=
  (version_Of.f a0).bind fun t => if t.2.2.2.2.2.2.2 = 0 then (if a1.size ≤ maxLen then (if t.2.2.2.2.2.2.1 = true then (if a1.toList = ([109, 46, 114, 111, 111, 109, 46, 99, 114, 101, 97, 116, 101] : List UInt8) then some ([], true) else some (sortB (keepG t.2.2.2.1 t.2.2.2.2.1 t.2.2.2.2.2.1 t.2.2.2.2.2.2.1 a1.data.toList), false)) else some (sortB (keepG t.2.2.2.1 t.2.2.2.2.1 t.2.2.2.2.2.1 t.2.2.2.2.2.2.1 a1.data.toList), false)) else none) else some ([], false)
theorem KX.new {w w1 : World} (h : Below w.heap.size w w1) (cs : Array Value) : KX w ((w1.alloc (.cells cs 123)).alloc (.map #[] 0)) w1.heap.size (w1.heap.size + 1) (w1.heap.size + 1) cs (fun _ => []) 0 := by
  have e1 : (w1.alloc (.cells cs 123)).heap.size = w1.heap.size + 1 := by unfold World.alloc; simp
  have hm := World.ownsMap_made (H := Value) (w1.alloc (.cells cs 123)) Try.prog 9 rawR
  rw [e1] at hm
  have hB := below_alloc (below_alloc h (.cells cs 123)) (.map #[] 0)
  refine ⟨fun _ => nilS, 0, Nat.le_refl _, ?_, fun k q hq => (by cases hq), blk_alloc (blk_new _ _) _⟩
  refine { m := ⟨.map [], ⟨[], rfl⟩, hm, fun k => rfl⟩, r := fun k => ⟨rfl, .inl ⟨rfl, rfl⟩⟩, d := fun k k' _ x hx => (by cases hx), l := fun k => Nat.zero_le _, hb := Nat.le_succ_of_le h.size, B := hB, nb := fun k q hq => (by cases hq) }
theorem KX.open_ {w0 W : World} {gb b xb N : Nat} {cs : Array Value} {g : List UInt8 → List ByteArray} (h : KX w0 W gb b xb cs g N) : ∃ f n, KS w0 W b xb f g n ∧ n ≤ N := by
  obtain ⟨f, n, hn, hk, _⟩ := h
  exact ⟨f, n, hk, hn⟩
theorem grown_own {w0 W W1 : World} {v : Value} {n : Nat} {xs : List Value} (ho : W.ownsRow w0.heap.size 9 1 v n xs) (hB : Below w0.heap.size w0 W) (hg : W.grownBy W1 v.ownBlock) : Below w0.heap.size w0 W1 := hB.grown hg hB.size (fun j hj => (ho.lt j hj).1)
set_option maxHeartbeats 8000000 in
set_option maxRecDepth 100000 in
theorem keep_Content.calls (a0 : Int) (a1 : ByteArray) (r1 : List ByteArray) (r2 : Bool) (w : World) (h : keep_Content.f a0 a1 = some (r1, r2)) :
  Calls Try.prog 55 #[.int .i64 a0, .string a1] w fun e w' => ∃ v0_ : Value, e = .returned (.tuple #[v0_, .bool r2]) ∧ Kd.R Kd.string 9 w' w.heap.size (fun _ => True) v0_ r1 ∧ Below w.heap.size w w' := by
  have hmm := @run_makeMap Try.prog
  unfold keep_Content.f at h
  obtain ⟨⟨t0, t1, t2, t3, t4, t5, t6, t7⟩, A0, H⟩ := Option.bind_eq_some_iff.mp h
  clear h
  have A := Aside0.mk A0
  clear A0
  simp only at H
  by_cases c7 : t7 = 0
  case neg =>
    rw [if_neg c7] at H
    simp only [Option.some.injEq, Prod.mk.injEq] at H
    obtain ⟨rfl, rfl⟩ := H
    have c7a : (t7 == 0) = false := by simp [c7]
    have c7b : (t7 != 0) = true := by simp [c7]
    clear c7
    go_enter Try.func55, Try.ntmps55
    go_wp2_with (first | (go_at_call 100; with_reducible refine (version_Of.calls a0 t0 t1 t2 t3 t4 t5 t6 t7 _ A.out).mono ?_; rintro e w1 ⟨rfl, hb1⟩; have B1 := Aside0.mk hb1; clear hb1))
    go_ret2
    exact ⟨_, rfl, Kd.R_nil _ _ _ _ _, below_alloc B1.out _⟩
  subst c7
  rw [if_pos rfl] at H
  by_cases hsz : a1.size ≤ maxLen
  case neg => rw [if_neg hsz] at H; cases H
  rw [if_pos hsz] at H
  cases t6 with
  | false =>
    rw [if_neg (by decide)] at H
    simp only [Option.some.injEq, Prod.mk.injEq] at H
    obtain ⟨rfl, rfl⟩ := H
    go_enter Try.func55, Try.ntmps55
    go_wp2_with (first | (go_at_call 100; with_reducible refine (version_Of.calls a0 t0 t1 t2 t3 t4 t5 false 0 _ A.out).mono ?_; rintro e w1 ⟨rfl, hb1⟩; have B1 := Aside0.mk hb1; clear hb1) | ((with_reducible show wpList _ _ _ (⟨none, Op.insert _ _ _ _, _, _, _, _⟩ :: _) _ _); refine wpList_lit (KX.new B1.out #[.bool t0, .bool t1, .bool t2, .bool t3, .bool t4, .bool t5, .bool false]) (by decide) keepK0 (by decide) keepL0 (by decide) (by decide) rfl (.tmp 17) _ (.tmp 18) rfl ?hm rfl ?hv rfl ?_; (case hm => first | rfl | (go_simp; done) | (simp [World.alloc]; done)); (case hv => first | rfl | (go_simp; done) | (simp [World.alloc]; done)); intro v1 hk1; have K1 := Aside0.mk hk1; clear hk1) | ((with_reducible show wpList _ _ _ (⟨none, Op.insert _ _ _ _, _, _, _, _⟩ :: _) _ _); refine wpList_lit K1.out (by decide) keepK1 (by decide) keepL1 (by decide) (by decide) rfl (.tmp 17) _ (.tmp 19) rfl ?hm rfl ?hv rfl ?_; (case hm => first | rfl | (go_simp; done) | (simp [World.alloc]; done)); (case hv => first | rfl | (go_simp; done) | (simp [World.alloc]; done)); intro v2 hk2; have K2 := Aside0.mk hk2; clear hk2) | ((with_reducible show wpList _ _ _ (⟨none, Op.insert _ _ _ _, _, _, _, _⟩ :: _) _ _); refine wpList_lit K2.out (by decide) keepK2 (by decide) keepL2 (by decide) (by decide) rfl (.tmp 17) _ (.tmp 20) rfl ?hm rfl ?hv rfl ?_; (case hm => first | rfl | (go_simp; done) | (simp [World.alloc]; done)); (case hv => first | rfl | (go_simp; done) | (simp [World.alloc]; done)); intro v3 hk3; have K3 := Aside0.mk hk3; clear hk3) | ((with_reducible show wpList _ _ _ (⟨none, Op.insert _ _ _ _, _, _, _, _⟩ :: _) _ _); refine wpList_lit K3.out (by decide) keepK3 (by decide) keepL3 (by decide) (by decide) rfl (.tmp 17) _ (.tmp 21) rfl ?hm rfl ?hv rfl ?_; (case hm => first | rfl | (go_simp; done) | (simp [World.alloc]; done)); (case hv => first | rfl | (go_simp; done) | (simp [World.alloc]; done)); intro v4 hk4; have K4 := Aside0.mk hk4; clear hk4) | ((with_reducible show wpList _ _ _ (⟨none, Op.insert _ _ _ _, _, _, _, _⟩ :: _) _ _); refine wpList_lit K4.out (by decide) keepK4 (by decide) keepL4 (by decide) (by decide) rfl (.tmp 17) _ (.tmp 22) rfl ?hm rfl ?hv rfl ?_; (case hm => first | rfl | (go_simp; done) | (simp [World.alloc]; done)); (case hv => first | rfl | (go_simp; done) | (simp [World.alloc]; done)); intro v5 hk5; have K5 := Aside0.mk hk5; clear hk5; have q5 : v5.cell? ⟨w1.heap.size, 5, none⟩ = some (.bool t5) := (KX.cell K5.out 5).trans rfl; have q6 : w1.heap.size < v5.heap.size := World.block_lt_of_cell? _ _ q5) | (go_at_call 103; with_reducible refine (more_all keepM0 keepX0 t5 ⟨v5.heap.size, 0, none⟩ ((KX.box K5.out (Nat.le_refl _)).step (below_alloc (Below.refl _ _) (.cells #[.map (some (w1.heap.size + 1))] 129))) (by decide) ((blk_cell (blk_new _ _) 0).trans rfl) (by decide)).mono ?_; rintro e v6 ⟨rfl, hk6, hx6⟩; have K6 := Aside0.mk hk6; have X6 := Aside0.mk hx6; clear hk6 hx6; have q10 : v6.cell? ⟨w1.heap.size, 6, none⟩ = some (.bool false) := (KX.cell K6.out 6).trans rfl) | (go_at_call 103; with_reducible refine (more_all keepM1 keepX1 false ⟨v5.heap.size, 0, none⟩ K6.out (by decide) X6.out (by decide)).mono ?_; rintro e v7 ⟨rfl, hk7, hx7⟩; have K7 := Aside0.mk hk7; have X7 := Aside0.mk hx7; clear hk7 hx7; have q11 : v7.cell? ⟨w1.heap.size, 4, none⟩ = some (.bool t4) := (KX.cell K7.out 4).trans rfl) | (go_at_call 103; with_reducible refine (more_all keepM2 keepX2 t4 ⟨v5.heap.size, 0, none⟩ K7.out (by decide) X7.out (by decide)).mono ?_; rintro e v8 ⟨rfl, hk8, hx8⟩; have K8 := Aside0.mk hk8; have X8 := Aside0.mk hx8; clear hk8 hx8; have q12 : v8.cell? ⟨w1.heap.size, 6, none⟩ = some (.bool false) := (KX.cell K8.out 6).trans rfl) | (go_at_call 103; with_reducible refine (more_all keepM3 keepX3 false ⟨v5.heap.size, 0, none⟩ K8.out (by decide) X8.out (by decide)).mono ?_; rintro e v9 ⟨rfl, hk9, hx9⟩; have K9 := Aside0.mk hk9; have X9 := Aside0.mk hx9; clear hk9 hx9; have q13 : v9.cell? ⟨w1.heap.size, 3, none⟩ = some (.bool t3) := (KX.cell K9.out 3).trans rfl) | (go_at_call 103; with_reducible refine (more_all keepM4 keepX4 t3 ⟨v5.heap.size, 0, none⟩ K9.out (by decide) X9.out (by decide)).mono ?_; rintro e v10 ⟨rfl, hk10, hx10⟩; have K10 := Aside0.mk hk10; have X10 := Aside0.mk hx10; clear hk10 hx10; have q14 : v10.cell? ⟨w1.heap.size, 6, none⟩ = some (.bool false) := (KX.cell K10.out 6).trans rfl) | (go_at_call 103; with_reducible refine (more_all keepM5 keepX5 false ⟨v5.heap.size, 0, none⟩ K10.out (by decide) X10.out (by decide)).mono ?_; rintro e v11 ⟨rfl, hk11, hx11⟩; have K11 := Aside0.mk hk11; have X11 := Aside0.mk hx11; clear hk11 hx11; have q15 : v11.cell? ⟨w1.heap.size, 6, none⟩ = some (.bool false) := (KX.cell K11.out 6).trans rfl; have q20 := X11.out; obtain ⟨f, n, hks, hn⟩ := KX.open_ K11.out; have hlk := hks.look a1 hsz; have HN := Aside0.mk hn; clear hn; have HS := Aside0.mk hks; clear hks) | (go_at_call 101; with_reducible refine (sort_own _ (HS.out.r a1.data.toList) (by have := HS.out.l a1.data.toList; have := HN.out; omega)).mono ?_; rintro e v12 ⟨rfl, ho, hg⟩; have HO := Aside0.mk ho; have HG := Aside0.mk hg; clear ho hg))
    go_ret2
    exact ⟨_, rfl, R_of_own' HO.out, grown_own (HS.out.r _) HS.out.B HG.out⟩
  | true =>
    rw [if_pos rfl] at H
    by_cases c8 : a1.toList = ([109, 46, 114, 111, 111, 109, 46, 99, 114, 101, 97, 116, 101] : List UInt8)
    case pos =>
      rw [if_pos c8] at H
      simp only [Option.some.injEq, Prod.mk.injEq] at H
      obtain ⟨rfl, rfl⟩ := H
      have c8a : (a1.toList == ([109, 46, 114, 111, 111, 109, 46, 99, 114, 101, 97, 116, 101] : List UInt8)) = true := beq_iff_eq.mpr c8
      clear c8
      go_enter Try.func55, Try.ntmps55
      go_wp2_with (first | (go_at_call 100; with_reducible refine (version_Of.calls a0 t0 t1 t2 t3 t4 t5 true 0 _ A.out).mono ?_; rintro e w1 ⟨rfl, hb1⟩; have B1 := Aside0.mk hb1; clear hb1) | ((with_reducible show wpList _ _ _ (⟨none, Op.insert _ _ _ _, _, _, _, _⟩ :: _) _ _); refine wpList_lit (KX.new B1.out #[.bool t0, .bool t1, .bool t2, .bool t3, .bool t4, .bool t5, .bool true]) (by decide) keepK0 (by decide) keepL0 (by decide) (by decide) rfl (.tmp 17) _ (.tmp 18) rfl ?hm rfl ?hv rfl ?_; (case hm => first | rfl | (go_simp; done) | (simp [World.alloc]; done)); (case hv => first | rfl | (go_simp; done) | (simp [World.alloc]; done)); intro v1 hk1; have K1 := Aside0.mk hk1; clear hk1) | ((with_reducible show wpList _ _ _ (⟨none, Op.insert _ _ _ _, _, _, _, _⟩ :: _) _ _); refine wpList_lit K1.out (by decide) keepK1 (by decide) keepL1 (by decide) (by decide) rfl (.tmp 17) _ (.tmp 19) rfl ?hm rfl ?hv rfl ?_; (case hm => first | rfl | (go_simp; done) | (simp [World.alloc]; done)); (case hv => first | rfl | (go_simp; done) | (simp [World.alloc]; done)); intro v2 hk2; have K2 := Aside0.mk hk2; clear hk2) | ((with_reducible show wpList _ _ _ (⟨none, Op.insert _ _ _ _, _, _, _, _⟩ :: _) _ _); refine wpList_lit K2.out (by decide) keepK2 (by decide) keepL2 (by decide) (by decide) rfl (.tmp 17) _ (.tmp 20) rfl ?hm rfl ?hv rfl ?_; (case hm => first | rfl | (go_simp; done) | (simp [World.alloc]; done)); (case hv => first | rfl | (go_simp; done) | (simp [World.alloc]; done)); intro v3 hk3; have K3 := Aside0.mk hk3; clear hk3) | ((with_reducible show wpList _ _ _ (⟨none, Op.insert _ _ _ _, _, _, _, _⟩ :: _) _ _); refine wpList_lit K3.out (by decide) keepK3 (by decide) keepL3 (by decide) (by decide) rfl (.tmp 17) _ (.tmp 21) rfl ?hm rfl ?hv rfl ?_; (case hm => first | rfl | (go_simp; done) | (simp [World.alloc]; done)); (case hv => first | rfl | (go_simp; done) | (simp [World.alloc]; done)); intro v4 hk4; have K4 := Aside0.mk hk4; clear hk4) | ((with_reducible show wpList _ _ _ (⟨none, Op.insert _ _ _ _, _, _, _, _⟩ :: _) _ _); refine wpList_lit K4.out (by decide) keepK4 (by decide) keepL4 (by decide) (by decide) rfl (.tmp 17) _ (.tmp 22) rfl ?hm rfl ?hv rfl ?_; (case hm => first | rfl | (go_simp; done) | (simp [World.alloc]; done)); (case hv => first | rfl | (go_simp; done) | (simp [World.alloc]; done)); intro v5 hk5; have K5 := Aside0.mk hk5; clear hk5; have q5 : v5.cell? ⟨w1.heap.size, 5, none⟩ = some (.bool t5) := (KX.cell K5.out 5).trans rfl; have q6 : w1.heap.size < v5.heap.size := World.block_lt_of_cell? _ _ q5) | (go_at_call 103; with_reducible refine (more_all keepM0 keepX0 t5 ⟨v5.heap.size, 0, none⟩ ((KX.box K5.out (Nat.le_refl _)).step (below_alloc (Below.refl _ _) (.cells #[.map (some (w1.heap.size + 1))] 129))) (by decide) ((blk_cell (blk_new _ _) 0).trans rfl) (by decide)).mono ?_; rintro e v6 ⟨rfl, hk6, hx6⟩; have K6 := Aside0.mk hk6; have X6 := Aside0.mk hx6; clear hk6 hx6; have q10 : v6.cell? ⟨w1.heap.size, 6, none⟩ = some (.bool true) := (KX.cell K6.out 6).trans rfl) | (go_at_call 103; with_reducible refine (more_all keepM1 keepX1 true ⟨v5.heap.size, 0, none⟩ K6.out (by decide) X6.out (by decide)).mono ?_; rintro e v7 ⟨rfl, hk7, hx7⟩; have K7 := Aside0.mk hk7; have X7 := Aside0.mk hx7; clear hk7 hx7; have q11 : v7.cell? ⟨w1.heap.size, 4, none⟩ = some (.bool t4) := (KX.cell K7.out 4).trans rfl) | (go_at_call 103; with_reducible refine (more_all keepM2 keepX2 t4 ⟨v5.heap.size, 0, none⟩ K7.out (by decide) X7.out (by decide)).mono ?_; rintro e v8 ⟨rfl, hk8, hx8⟩; have K8 := Aside0.mk hk8; have X8 := Aside0.mk hx8; clear hk8 hx8; have q12 : v8.cell? ⟨w1.heap.size, 6, none⟩ = some (.bool true) := (KX.cell K8.out 6).trans rfl) | (go_at_call 103; with_reducible refine (more_all keepM3 keepX3 true ⟨v5.heap.size, 0, none⟩ K8.out (by decide) X8.out (by decide)).mono ?_; rintro e v9 ⟨rfl, hk9, hx9⟩; have K9 := Aside0.mk hk9; have X9 := Aside0.mk hx9; clear hk9 hx9; have q13 : v9.cell? ⟨w1.heap.size, 3, none⟩ = some (.bool t3) := (KX.cell K9.out 3).trans rfl) | (go_at_call 103; with_reducible refine (more_all keepM4 keepX4 t3 ⟨v5.heap.size, 0, none⟩ K9.out (by decide) X9.out (by decide)).mono ?_; rintro e v10 ⟨rfl, hk10, hx10⟩; have K10 := Aside0.mk hk10; have X10 := Aside0.mk hx10; clear hk10 hx10; have q14 : v10.cell? ⟨w1.heap.size, 6, none⟩ = some (.bool true) := (KX.cell K10.out 6).trans rfl) | (go_at_call 103; with_reducible refine (more_all keepM5 keepX5 true ⟨v5.heap.size, 0, none⟩ K10.out (by decide) X10.out (by decide)).mono ?_; rintro e v11 ⟨rfl, hk11, hx11⟩; have K11 := Aside0.mk hk11; have X11 := Aside0.mk hx11; clear hk11 hx11; have q15 : v11.cell? ⟨w1.heap.size, 6, none⟩ = some (.bool true) := (KX.cell K11.out 6).trans rfl; have q20 := X11.out; obtain ⟨f, n, hks, hn⟩ := KX.open_ K11.out; have hlk := hks.look a1 hsz; have HN := Aside0.mk hn; clear hn; have HS := Aside0.mk hks; clear hks))
      go_ret2
      exact ⟨_, rfl, Kd.R_nil _ _ _ _ _, K11.out.B⟩
    rw [if_neg c8] at H
    simp only [Option.some.injEq, Prod.mk.injEq] at H
    obtain ⟨rfl, rfl⟩ := H
    have c8a : (a1.toList == ([109, 46, 114, 111, 111, 109, 46, 99, 114, 101, 97, 116, 101] : List UInt8)) = false := beq_eq_false_iff_ne.mpr c8
    clear c8
    go_enter Try.func55, Try.ntmps55
    go_wp2_with (first | (go_at_call 100; with_reducible refine (version_Of.calls a0 t0 t1 t2 t3 t4 t5 true 0 _ A.out).mono ?_; rintro e w1 ⟨rfl, hb1⟩; have B1 := Aside0.mk hb1; clear hb1) | ((with_reducible show wpList _ _ _ (⟨none, Op.insert _ _ _ _, _, _, _, _⟩ :: _) _ _); refine wpList_lit (KX.new B1.out #[.bool t0, .bool t1, .bool t2, .bool t3, .bool t4, .bool t5, .bool true]) (by decide) keepK0 (by decide) keepL0 (by decide) (by decide) rfl (.tmp 17) _ (.tmp 18) rfl ?hm rfl ?hv rfl ?_; (case hm => first | rfl | (go_simp; done) | (simp [World.alloc]; done)); (case hv => first | rfl | (go_simp; done) | (simp [World.alloc]; done)); intro v1 hk1; have K1 := Aside0.mk hk1; clear hk1) | ((with_reducible show wpList _ _ _ (⟨none, Op.insert _ _ _ _, _, _, _, _⟩ :: _) _ _); refine wpList_lit K1.out (by decide) keepK1 (by decide) keepL1 (by decide) (by decide) rfl (.tmp 17) _ (.tmp 19) rfl ?hm rfl ?hv rfl ?_; (case hm => first | rfl | (go_simp; done) | (simp [World.alloc]; done)); (case hv => first | rfl | (go_simp; done) | (simp [World.alloc]; done)); intro v2 hk2; have K2 := Aside0.mk hk2; clear hk2) | ((with_reducible show wpList _ _ _ (⟨none, Op.insert _ _ _ _, _, _, _, _⟩ :: _) _ _); refine wpList_lit K2.out (by decide) keepK2 (by decide) keepL2 (by decide) (by decide) rfl (.tmp 17) _ (.tmp 20) rfl ?hm rfl ?hv rfl ?_; (case hm => first | rfl | (go_simp; done) | (simp [World.alloc]; done)); (case hv => first | rfl | (go_simp; done) | (simp [World.alloc]; done)); intro v3 hk3; have K3 := Aside0.mk hk3; clear hk3) | ((with_reducible show wpList _ _ _ (⟨none, Op.insert _ _ _ _, _, _, _, _⟩ :: _) _ _); refine wpList_lit K3.out (by decide) keepK3 (by decide) keepL3 (by decide) (by decide) rfl (.tmp 17) _ (.tmp 21) rfl ?hm rfl ?hv rfl ?_; (case hm => first | rfl | (go_simp; done) | (simp [World.alloc]; done)); (case hv => first | rfl | (go_simp; done) | (simp [World.alloc]; done)); intro v4 hk4; have K4 := Aside0.mk hk4; clear hk4) | ((with_reducible show wpList _ _ _ (⟨none, Op.insert _ _ _ _, _, _, _, _⟩ :: _) _ _); refine wpList_lit K4.out (by decide) keepK4 (by decide) keepL4 (by decide) (by decide) rfl (.tmp 17) _ (.tmp 22) rfl ?hm rfl ?hv rfl ?_; (case hm => first | rfl | (go_simp; done) | (simp [World.alloc]; done)); (case hv => first | rfl | (go_simp; done) | (simp [World.alloc]; done)); intro v5 hk5; have K5 := Aside0.mk hk5; clear hk5; have q5 : v5.cell? ⟨w1.heap.size, 5, none⟩ = some (.bool t5) := (KX.cell K5.out 5).trans rfl; have q6 : w1.heap.size < v5.heap.size := World.block_lt_of_cell? _ _ q5) | (go_at_call 103; with_reducible refine (more_all keepM0 keepX0 t5 ⟨v5.heap.size, 0, none⟩ ((KX.box K5.out (Nat.le_refl _)).step (below_alloc (Below.refl _ _) (.cells #[.map (some (w1.heap.size + 1))] 129))) (by decide) ((blk_cell (blk_new _ _) 0).trans rfl) (by decide)).mono ?_; rintro e v6 ⟨rfl, hk6, hx6⟩; have K6 := Aside0.mk hk6; have X6 := Aside0.mk hx6; clear hk6 hx6; have q10 : v6.cell? ⟨w1.heap.size, 6, none⟩ = some (.bool true) := (KX.cell K6.out 6).trans rfl) | (go_at_call 103; with_reducible refine (more_all keepM1 keepX1 true ⟨v5.heap.size, 0, none⟩ K6.out (by decide) X6.out (by decide)).mono ?_; rintro e v7 ⟨rfl, hk7, hx7⟩; have K7 := Aside0.mk hk7; have X7 := Aside0.mk hx7; clear hk7 hx7; have q11 : v7.cell? ⟨w1.heap.size, 4, none⟩ = some (.bool t4) := (KX.cell K7.out 4).trans rfl) | (go_at_call 103; with_reducible refine (more_all keepM2 keepX2 t4 ⟨v5.heap.size, 0, none⟩ K7.out (by decide) X7.out (by decide)).mono ?_; rintro e v8 ⟨rfl, hk8, hx8⟩; have K8 := Aside0.mk hk8; have X8 := Aside0.mk hx8; clear hk8 hx8; have q12 : v8.cell? ⟨w1.heap.size, 6, none⟩ = some (.bool true) := (KX.cell K8.out 6).trans rfl) | (go_at_call 103; with_reducible refine (more_all keepM3 keepX3 true ⟨v5.heap.size, 0, none⟩ K8.out (by decide) X8.out (by decide)).mono ?_; rintro e v9 ⟨rfl, hk9, hx9⟩; have K9 := Aside0.mk hk9; have X9 := Aside0.mk hx9; clear hk9 hx9; have q13 : v9.cell? ⟨w1.heap.size, 3, none⟩ = some (.bool t3) := (KX.cell K9.out 3).trans rfl) | (go_at_call 103; with_reducible refine (more_all keepM4 keepX4 t3 ⟨v5.heap.size, 0, none⟩ K9.out (by decide) X9.out (by decide)).mono ?_; rintro e v10 ⟨rfl, hk10, hx10⟩; have K10 := Aside0.mk hk10; have X10 := Aside0.mk hx10; clear hk10 hx10; have q14 : v10.cell? ⟨w1.heap.size, 6, none⟩ = some (.bool true) := (KX.cell K10.out 6).trans rfl) | (go_at_call 103; with_reducible refine (more_all keepM5 keepX5 true ⟨v5.heap.size, 0, none⟩ K10.out (by decide) X10.out (by decide)).mono ?_; rintro e v11 ⟨rfl, hk11, hx11⟩; have K11 := Aside0.mk hk11; have X11 := Aside0.mk hx11; clear hk11 hx11; have q15 : v11.cell? ⟨w1.heap.size, 6, none⟩ = some (.bool true) := (KX.cell K11.out 6).trans rfl; have q20 := X11.out; obtain ⟨f, n, hks, hn⟩ := KX.open_ K11.out; have hlk := hks.look a1 hsz; have HN := Aside0.mk hn; clear hn; have HS := Aside0.mk hks; clear hks) | (go_at_call 101; with_reducible refine (sort_own _ (HS.out.r a1.data.toList) (by have := HS.out.l a1.data.toList; have := HN.out; omega)).mono ?_; rintro e v12 ⟨rfl, ho, hg⟩; have HO := Aside0.mk ho; have HG := Aside0.mk hg; clear ho hg))
    go_ret2
    exact ⟨_, rfl, R_of_own' HO.out, grown_own (HS.out.r _) HS.out.B HG.out⟩
end Go.Proofs.Ytbnmcnghmnhigaa.X
end
section
namespace Go.Proofs.Ytbnmcnghmnhigaa.X
open Go.RowKit Go.Proofs.YtbnmcnghmnhigaaW.PrintWords Go.Proofs.YtbnmcnghmnhigaaW.PrintLast Go.Proofs.YtbnmcnghmnhigaaW.PrintMore
attribute [local go_sem] Go.Instr.field Go.asAgg max2_int min2_int max_two min_two max_three min_three max_four min_four
set_option linter.unusedVariables false
set_option linter.unusedSimpArgs false
def sealringlaw32_lives.f  : Option (Bool) := (keep_Content.f 1 (⟨#[109, 46, 114, 111, 111, 109, 46, 109, 101, 109, 98, 101, 114]⟩ : ByteArray)).bind fun bt1150 => ((keep_Content.f 11 (⟨#[109, 46, 114, 111, 111, 109, 46, 99, 114, 101, 97, 116, 101]⟩ : ByteArray)).bind fun bt1154 => ((keep_Inner.f 11 (⟨#[109, 46, 114, 111, 111, 109, 46, 109, 101, 109, 98, 101, 114]⟩ : ByteArray) (⟨#[116, 104, 105, 114, 100, 95, 112, 97, 114, 116, 121, 95, 105, 110, 118, 105, 116, 101]⟩ : ByteArray)).bind fun bt1158 => (if (bt1150.1.length : Int) = 1 then (if 0 < (bt1150.1.length : Int) then (if (rdOf ByteArray.empty bt1150.1 0).toList = ([109, 101, 109, 98, 101, 114, 115, 104, 105, 112] : List UInt8) then (if bt1150.2 = true then (some false) else (if bt1154.2 = true then (if (bt1158.1.length : Int) = 1 then (if 0 < (bt1158.1.length : Int) then (if (rdOf ByteArray.empty bt1158.1 0).toList = ([115, 105, 103, 110, 101, 100] : List UInt8) then (some bt1158.2) else (some false)) else (none)) else (some false)) else (some false))) else (some false)) else (none)) else (some false))))
set_option maxHeartbeats 8000000 in
set_option maxRecDepth 100000 in
theorem sealringlaw32_lives.calls  (r : Bool) (w : World) (h : sealringlaw32_lives.f  = some r) :
    Calls Try.prog 59 #[] w fun e w' => e = .returned (.bool r) ∧ Below w.heap.size w w' := by
  have HB := Aside0.mk (Below.refl w.heap.size w)
  have H : ((keep_Content.f 1 (⟨#[109, 46, 114, 111, 111, 109, 46, 109, 101, 109, 98, 101, 114]⟩ : ByteArray)).bind fun bt1150 => ((keep_Content.f 11 (⟨#[109, 46, 114, 111, 111, 109, 46, 99, 114, 101, 97, 116, 101]⟩ : ByteArray)).bind fun bt1154 => ((keep_Inner.f 11 (⟨#[109, 46, 114, 111, 111, 109, 46, 109, 101, 109, 98, 101, 114]⟩ : ByteArray) (⟨#[116, 104, 105, 114, 100, 95, 112, 97, 114, 116, 121, 95, 105, 110, 118, 105, 116, 101]⟩ : ByteArray)).bind fun bt1158 => (if (bt1150.1.length : Int) = 1 then (if 0 < (bt1150.1.length : Int) then (if (rdOf ByteArray.empty bt1150.1 0).toList = ([109, 101, 109, 98, 101, 114, 115, 104, 105, 112] : List UInt8) then (if bt1150.2 = true then (some false) else (if bt1154.2 = true then (if (bt1158.1.length : Int) = 1 then (if 0 < (bt1158.1.length : Int) then (if (rdOf ByteArray.empty bt1158.1 0).toList = ([115, 105, 103, 110, 101, 100] : List UInt8) then (some bt1158.2) else (some false)) else (none)) else (some false)) else (some false))) else (some false)) else (none)) else (some false))))) = some r := h
  clear h
  replace H := Option.bind_eq_some_iff.mp H
  obtain ⟨⟨t1150, t1151⟩, A10, H⟩ := H
  replace H : ((keep_Content.f 11 (⟨#[109, 46, 114, 111, 111, 109, 46, 99, 114, 101, 97, 116, 101]⟩ : ByteArray)).bind fun bt1154 => ((keep_Inner.f 11 (⟨#[109, 46, 114, 111, 111, 109, 46, 109, 101, 109, 98, 101, 114]⟩ : ByteArray) (⟨#[116, 104, 105, 114, 100, 95, 112, 97, 114, 116, 121, 95, 105, 110, 118, 105, 116, 101]⟩ : ByteArray)).bind fun bt1158 => (if (t1150.length : Int) = 1 then (if 0 < (t1150.length : Int) then (if (rdOf ByteArray.empty t1150 0).toList = ([109, 101, 109, 98, 101, 114, 115, 104, 105, 112] : List UInt8) then (if t1151 = true then (some false) else (if bt1154.2 = true then (if (bt1158.1.length : Int) = 1 then (if 0 < (bt1158.1.length : Int) then (if (rdOf ByteArray.empty bt1158.1 0).toList = ([115, 105, 103, 110, 101, 100] : List UInt8) then (some bt1158.2) else (some false)) else (none)) else (some false)) else (some false))) else (some false)) else (none)) else (some false)))) = some r := H
  have A1 := Aside0.mk A10
  clear A10
  replace H := Option.bind_eq_some_iff.mp H
  obtain ⟨⟨t1154, t1155⟩, A20, H⟩ := H
  replace H : ((keep_Inner.f 11 (⟨#[109, 46, 114, 111, 111, 109, 46, 109, 101, 109, 98, 101, 114]⟩ : ByteArray) (⟨#[116, 104, 105, 114, 100, 95, 112, 97, 114, 116, 121, 95, 105, 110, 118, 105, 116, 101]⟩ : ByteArray)).bind fun bt1158 => (if (t1150.length : Int) = 1 then (if 0 < (t1150.length : Int) then (if (rdOf ByteArray.empty t1150 0).toList = ([109, 101, 109, 98, 101, 114, 115, 104, 105, 112] : List UInt8) then (if t1151 = true then (some false) else (if t1155 = true then (if (bt1158.1.length : Int) = 1 then (if 0 < (bt1158.1.length : Int) then (if (rdOf ByteArray.empty bt1158.1 0).toList = ([115, 105, 103, 110, 101, 100] : List UInt8) then (some bt1158.2) else (some false)) else (none)) else (some false)) else (some false))) else (some false)) else (none)) else (some false))) = some r := H
  have A2 := Aside0.mk A20
  clear A20
  replace H := Option.bind_eq_some_iff.mp H
  obtain ⟨⟨t1158, t1159⟩, A30, H⟩ := H
  replace H : (if (t1150.length : Int) = 1 then (if 0 < (t1150.length : Int) then (if (rdOf ByteArray.empty t1150 0).toList = ([109, 101, 109, 98, 101, 114, 115, 104, 105, 112] : List UInt8) then (if t1151 = true then (some false) else (if t1155 = true then (if (t1158.length : Int) = 1 then (if 0 < (t1158.length : Int) then (if (rdOf ByteArray.empty t1158 0).toList = ([115, 105, 103, 110, 101, 100] : List UInt8) then (some t1159) else (some false)) else (none)) else (some false)) else (some false))) else (some false)) else (none)) else (some false)) = some r := H
  have A3 := Aside0.mk A30
  clear A30
  by_cases c4 : (t1150.length : Int) = 1
  · rw [if_pos c4] at H
    have c4b0 : ((t1150.length : Int) == 1) = true := beq_iff_eq.mpr c4
    have c4b1 : ((t1150.length : Int) != 1) = false := bne_eq_false_iff_eq.mpr c4
    clear c4
    by_cases c5 : 0 < (t1150.length : Int)
    · rw [if_pos c5] at H
      have c5b0 : decide (0 < (t1150.length : Int)) = true := decide_eq_true c5
      have c5b1 : decide (0 < t1150.length) = true := decide_eq_true (by omega)
      clear c5
      by_cases c6 : (rdOf ByteArray.empty t1150 0).toList = ([109, 101, 109, 98, 101, 114, 115, 104, 105, 112] : List UInt8)
      · rw [if_pos c6] at H
        have c6b0 : ((rdOf ByteArray.empty t1150 0).toList == ([109, 101, 109, 98, 101, 114, 115, 104, 105, 112] : List UInt8)) = true := beq_iff_eq.mpr c6
        have c6b1 : ((rdOf ByteArray.empty t1150 0).toList != ([109, 101, 109, 98, 101, 114, 115, 104, 105, 112] : List UInt8)) = false := bne_eq_false_iff_eq.mpr c6
        clear c6
        by_cases c7 : t1151 = true
        · subst c7
          have H1 : (some false) = some r := by rw [if_pos rfl] at H; exact H
          clear H
          have H := H1
          clear H1
          obtain rfl := Option.some.inj H
          have hu29 := Try.underlying29
          go_enter Try.func59, Try.ntmps59
          go_wp2_with (first | ((with_reducible refine gate_callee (f := 55) rfl ?_); refine goesL_ (some 8) rfl rfl Try.func55 (by kernel_rfl) rfl #[.int .i64 1, .string (⟨#[109, 46, 114, 111, 111, 109, 46, 109, 101, 109, 98, 101, 114]⟩ : ByteArray)] rfl (by (try simp only [List.map_toArray, List.map_cons, List.map_nil]); first | done | rfl | (simp only [List.length_drop, List.length_take]; rfl)) ?_; (with_reducible refine (keep_Content.calls 1 (⟨#[109, 46, 114, 111, 111, 109, 46, 109, 101, 109, 98, 101, 114]⟩ : ByteArray) t1150 true _ A1.out).mono ?_); rintro e w8 ⟨v1152, rfl, ho0, hb⟩; refine ⟨_, rfl, ?_⟩; have n0_ := Aside0.mk (Kd.R_lower ho0 (below_size (by repeat (first | (with_reducible first | exact HB.out | apply below_alloc | apply pw_below_drewN | apply below_drew1) | exact HB.out)))); have n1_ := Aside0.mk (below_step (by repeat (first | (with_reducible first | exact HB.out | apply below_alloc | apply pw_below_drewN | apply below_drew1) | exact HB.out)) hb); clear HB; have HO1153 := n0_; have HB := n1_; clear n0_ n1_; (try clear hb); (try clear hb2); (try clear hk); (try clear hi); (try clear ho0)) | ((with_reducible refine gate_callee (f := 55) rfl ?_); refine goesL_ (some 12) rfl rfl Try.func55 (by kernel_rfl) rfl #[.int .i64 11, .string (⟨#[109, 46, 114, 111, 111, 109, 46, 99, 114, 101, 97, 116, 101]⟩ : ByteArray)] rfl (by (try simp only [List.map_toArray, List.map_cons, List.map_nil]); first | done | rfl | (simp only [List.length_drop, List.length_take]; rfl)) ?_; (with_reducible refine (keep_Content.calls 11 (⟨#[109, 46, 114, 111, 111, 109, 46, 99, 114, 101, 97, 116, 101]⟩ : ByteArray) t1154 t1155 _ A2.out).mono ?_); rintro e w9 ⟨v1156, rfl, ho0, hb⟩; refine ⟨_, rfl, ?_⟩; have n0_ := Aside0.mk (Kd.R_elder' (by (with_reducible repeat (first | apply Kd.R_alloc | apply Kd.R_drewN | apply Kd.R_drew)); exact HO1153.out) (Kd.R_base ho0) hb); have n1_ := Aside0.mk (Kd.R_lower (Kd.R_new' ho0 (Kd.R_lt (by (with_reducible repeat (first | apply Kd.R_alloc | apply Kd.R_drewN | apply Kd.R_drew)); exact HO1153.out))) (below_size (by repeat (first | (with_reducible first | exact HB.out | apply below_alloc | apply pw_below_drewN | apply below_drew1) | exact HB.out)))); have n2_ := Aside0.mk (below_step (by repeat (first | (with_reducible first | exact HB.out | apply below_alloc | apply pw_below_drewN | apply below_drew1) | exact HB.out)) hb); clear HO1153; clear HB; have HO1153 := n0_; have HO1157 := n1_; have HB := n2_; clear n0_ n1_ n2_; (try clear hb); (try clear hb2); (try clear hk); (try clear hi); (try clear ho0)) | ((with_reducible refine gate_callee (f := 57) rfl ?_); refine goesL_ (some 16) rfl rfl Try.func57 (by kernel_rfl) rfl #[.int .i64 11, .string (⟨#[109, 46, 114, 111, 111, 109, 46, 109, 101, 109, 98, 101, 114]⟩ : ByteArray), .string (⟨#[116, 104, 105, 114, 100, 95, 112, 97, 114, 116, 121, 95, 105, 110, 118, 105, 116, 101]⟩ : ByteArray)] rfl (by (try simp only [List.map_toArray, List.map_cons, List.map_nil]); first | done | rfl | (simp only [List.length_drop, List.length_take]; rfl)) ?_; (with_reducible refine (keep_Inner.calls 11 (⟨#[109, 46, 114, 111, 111, 109, 46, 109, 101, 109, 98, 101, 114]⟩ : ByteArray) (⟨#[116, 104, 105, 114, 100, 95, 112, 97, 114, 116, 121, 95, 105, 110, 118, 105, 116, 101]⟩ : ByteArray) t1158 t1159 _ A3.out).mono ?_); rintro e w10 ⟨v1160, rfl, ho0, hb⟩; refine ⟨_, rfl, ?_⟩; have n0_ := Aside0.mk (Kd.R_elder' (by (with_reducible repeat (first | apply Kd.R_alloc | apply Kd.R_drewN | apply Kd.R_drew)); exact HO1153.out) (Kd.R_base ho0) hb); have n1_ := Aside0.mk (Kd.R_elder' (by (with_reducible repeat (first | apply Kd.R_alloc | apply Kd.R_drewN | apply Kd.R_drew)); exact HO1157.out) (Kd.R_base ho0) hb); have n2_ := Aside0.mk (Kd.R_lower (Kd.R_new' (Kd.R_new' ho0 (Kd.R_lt (by (with_reducible repeat (first | apply Kd.R_alloc | apply Kd.R_drewN | apply Kd.R_drew)); exact HO1153.out))) (Kd.R_lt (by (with_reducible repeat (first | apply Kd.R_alloc | apply Kd.R_drewN | apply Kd.R_drew)); exact HO1157.out))) (below_size (by repeat (first | (with_reducible first | exact HB.out | apply below_alloc | apply pw_below_drewN | apply below_drew1) | exact HB.out)))); have n3_ := Aside0.mk (below_step (by repeat (first | (with_reducible first | exact HB.out | apply below_alloc | apply pw_below_drewN | apply below_drew1) | exact HB.out)) hb); clear HO1153; clear HO1157; clear HB; have HO1153 := n0_; have HO1157 := n1_; have HO1161 := n2_; have HB := n3_; clear n0_ n1_ n2_ n3_; (try clear hb); (try clear hb2); (try clear hk); (try clear hi); (try clear ho0); obtain ⟨Ao11, co11, eo11⟩ := Kd.R_slice HO1153.out; subst eo11; have p1162 : 0 ≤ (0 : Int) := (by omega); have q1162 : 0 < (t1150.length : Int) := of_decide_eq_true (by first | (with_reducible assumption) | assumption); obtain ⟨ad1162, e1162, hx1162_0⟩ := Kd.at_string (Kd.R_reads' HO1153.out).2.2 0 p1162 q1162; cases e1162; have qi1162 : (0 < t1150.length) = True := eq_true (by omega); (try rw [show ((0 : Int)).toNat = 0 from rfl] at hx1162_0); (try rw [Addr.add_zero'] at hx1162_0); replace p1162 := eq_true p1162; replace q1162 := eq_true q1162))
          go_ret
          exact ⟨by first | rfl | (simp [errW_none, errW_some] <;> rfl) | (simp [*, errW_none, errW_some] <;> rfl), by repeat (first | (with_reducible first | exact HB.out | apply below_alloc | apply pw_below_drewN | apply below_drew1) | exact HB.out)⟩
        · replace c7 := Bool.eq_false_iff.mpr c7
          subst c7
          have H1 : (if t1155 = true then (if (t1158.length : Int) = 1 then (if 0 < (t1158.length : Int) then (if (rdOf ByteArray.empty t1158 0).toList = ([115, 105, 103, 110, 101, 100] : List UInt8) then (some t1159) else (some false)) else (none)) else (some false)) else (some false)) = some r := by rw [if_neg (show ¬ (false = true) by decide)] at H; exact H
          clear H
          have H := H1
          clear H1
          by_cases c12 : t1155 = true
          · subst c12
            have H1 : (if (t1158.length : Int) = 1 then (if 0 < (t1158.length : Int) then (if (rdOf ByteArray.empty t1158 0).toList = ([115, 105, 103, 110, 101, 100] : List UInt8) then (some t1159) else (some false)) else (none)) else (some false)) = some r := by rw [if_pos rfl] at H; exact H
            clear H
            have H := H1
            clear H1
            by_cases c13 : (t1158.length : Int) = 1
            · rw [if_pos c13] at H
              have c13b0 : ((t1158.length : Int) == 1) = true := beq_iff_eq.mpr c13
              have c13b1 : ((t1158.length : Int) != 1) = false := bne_eq_false_iff_eq.mpr c13
              clear c13
              by_cases c14 : 0 < (t1158.length : Int)
              · rw [if_pos c14] at H
                have c14b0 : decide (0 < (t1158.length : Int)) = true := decide_eq_true c14
                have c14b1 : decide (0 < t1158.length) = true := decide_eq_true (by omega)
                clear c14
                by_cases c15 : (rdOf ByteArray.empty t1158 0).toList = ([115, 105, 103, 110, 101, 100] : List UInt8)
                · rw [if_pos c15] at H
                  have c15b0 : ((rdOf ByteArray.empty t1158 0).toList == ([115, 105, 103, 110, 101, 100] : List UInt8)) = true := beq_iff_eq.mpr c15
                  have c15b1 : ((rdOf ByteArray.empty t1158 0).toList != ([115, 105, 103, 110, 101, 100] : List UInt8)) = false := bne_eq_false_iff_eq.mpr c15
                  clear c15
                  obtain rfl := Option.some.inj H
                  have hu29 := Try.underlying29
                  go_enter Try.func59, Try.ntmps59
                  go_wp2_with (first | ((with_reducible refine gate_callee (f := 55) rfl ?_); refine goesL_ (some 8) rfl rfl Try.func55 (by kernel_rfl) rfl #[.int .i64 1, .string (⟨#[109, 46, 114, 111, 111, 109, 46, 109, 101, 109, 98, 101, 114]⟩ : ByteArray)] rfl (by (try simp only [List.map_toArray, List.map_cons, List.map_nil]); first | done | rfl | (simp only [List.length_drop, List.length_take]; rfl)) ?_; (with_reducible refine (keep_Content.calls 1 (⟨#[109, 46, 114, 111, 111, 109, 46, 109, 101, 109, 98, 101, 114]⟩ : ByteArray) t1150 false _ A1.out).mono ?_); rintro e w16 ⟨v1152, rfl, ho0, hb⟩; refine ⟨_, rfl, ?_⟩; have n0_ := Aside0.mk (Kd.R_lower ho0 (below_size (by repeat (first | (with_reducible first | exact HB.out | apply below_alloc | apply pw_below_drewN | apply below_drew1) | exact HB.out)))); have n1_ := Aside0.mk (below_step (by repeat (first | (with_reducible first | exact HB.out | apply below_alloc | apply pw_below_drewN | apply below_drew1) | exact HB.out)) hb); clear HB; have HO1153 := n0_; have HB := n1_; clear n0_ n1_; (try clear hb); (try clear hb2); (try clear hk); (try clear hi); (try clear ho0)) | ((with_reducible refine gate_callee (f := 55) rfl ?_); refine goesL_ (some 12) rfl rfl Try.func55 (by kernel_rfl) rfl #[.int .i64 11, .string (⟨#[109, 46, 114, 111, 111, 109, 46, 99, 114, 101, 97, 116, 101]⟩ : ByteArray)] rfl (by (try simp only [List.map_toArray, List.map_cons, List.map_nil]); first | done | rfl | (simp only [List.length_drop, List.length_take]; rfl)) ?_; (with_reducible refine (keep_Content.calls 11 (⟨#[109, 46, 114, 111, 111, 109, 46, 99, 114, 101, 97, 116, 101]⟩ : ByteArray) t1154 true _ A2.out).mono ?_); rintro e w17 ⟨v1156, rfl, ho0, hb⟩; refine ⟨_, rfl, ?_⟩; have n0_ := Aside0.mk (Kd.R_elder' (by (with_reducible repeat (first | apply Kd.R_alloc | apply Kd.R_drewN | apply Kd.R_drew)); exact HO1153.out) (Kd.R_base ho0) hb); have n1_ := Aside0.mk (Kd.R_lower (Kd.R_new' ho0 (Kd.R_lt (by (with_reducible repeat (first | apply Kd.R_alloc | apply Kd.R_drewN | apply Kd.R_drew)); exact HO1153.out))) (below_size (by repeat (first | (with_reducible first | exact HB.out | apply below_alloc | apply pw_below_drewN | apply below_drew1) | exact HB.out)))); have n2_ := Aside0.mk (below_step (by repeat (first | (with_reducible first | exact HB.out | apply below_alloc | apply pw_below_drewN | apply below_drew1) | exact HB.out)) hb); clear HO1153; clear HB; have HO1153 := n0_; have HO1157 := n1_; have HB := n2_; clear n0_ n1_ n2_; (try clear hb); (try clear hb2); (try clear hk); (try clear hi); (try clear ho0)) | ((with_reducible refine gate_callee (f := 57) rfl ?_); refine goesL_ (some 16) rfl rfl Try.func57 (by kernel_rfl) rfl #[.int .i64 11, .string (⟨#[109, 46, 114, 111, 111, 109, 46, 109, 101, 109, 98, 101, 114]⟩ : ByteArray), .string (⟨#[116, 104, 105, 114, 100, 95, 112, 97, 114, 116, 121, 95, 105, 110, 118, 105, 116, 101]⟩ : ByteArray)] rfl (by (try simp only [List.map_toArray, List.map_cons, List.map_nil]); first | done | rfl | (simp only [List.length_drop, List.length_take]; rfl)) ?_; (with_reducible refine (keep_Inner.calls 11 (⟨#[109, 46, 114, 111, 111, 109, 46, 109, 101, 109, 98, 101, 114]⟩ : ByteArray) (⟨#[116, 104, 105, 114, 100, 95, 112, 97, 114, 116, 121, 95, 105, 110, 118, 105, 116, 101]⟩ : ByteArray) t1158 t1159 _ A3.out).mono ?_); rintro e w18 ⟨v1160, rfl, ho0, hb⟩; refine ⟨_, rfl, ?_⟩; have n0_ := Aside0.mk (Kd.R_elder' (by (with_reducible repeat (first | apply Kd.R_alloc | apply Kd.R_drewN | apply Kd.R_drew)); exact HO1153.out) (Kd.R_base ho0) hb); have n1_ := Aside0.mk (Kd.R_elder' (by (with_reducible repeat (first | apply Kd.R_alloc | apply Kd.R_drewN | apply Kd.R_drew)); exact HO1157.out) (Kd.R_base ho0) hb); have n2_ := Aside0.mk (Kd.R_lower (Kd.R_new' (Kd.R_new' ho0 (Kd.R_lt (by (with_reducible repeat (first | apply Kd.R_alloc | apply Kd.R_drewN | apply Kd.R_drew)); exact HO1153.out))) (Kd.R_lt (by (with_reducible repeat (first | apply Kd.R_alloc | apply Kd.R_drewN | apply Kd.R_drew)); exact HO1157.out))) (below_size (by repeat (first | (with_reducible first | exact HB.out | apply below_alloc | apply pw_below_drewN | apply below_drew1) | exact HB.out)))); have n3_ := Aside0.mk (below_step (by repeat (first | (with_reducible first | exact HB.out | apply below_alloc | apply pw_below_drewN | apply below_drew1) | exact HB.out)) hb); clear HO1153; clear HO1157; clear HB; have HO1153 := n0_; have HO1157 := n1_; have HO1161 := n2_; have HB := n3_; clear n0_ n1_ n2_ n3_; (try clear hb); (try clear hb2); (try clear hk); (try clear hi); (try clear ho0); obtain ⟨Ao19, co19, eo19⟩ := Kd.R_slice HO1153.out; subst eo19; have p1162 : 0 ≤ (0 : Int) := (by omega); have q1162 : 0 < (t1150.length : Int) := of_decide_eq_true (by first | (with_reducible assumption) | assumption); obtain ⟨ad1162, e1162, hx1162_0⟩ := Kd.at_string (Kd.R_reads' HO1153.out).2.2 0 p1162 q1162; cases e1162; have qi1162 : (0 < t1150.length) = True := eq_true (by omega); (try rw [show ((0 : Int)).toNat = 0 from rfl] at hx1162_0); (try rw [Addr.add_zero'] at hx1162_0); replace p1162 := eq_true p1162; replace q1162 := eq_true q1162; obtain ⟨Ao20, co20, eo20⟩ := Kd.R_slice HO1161.out; subst eo20; have p1163 : 0 ≤ (0 : Int) := (by omega); have q1163 : 0 < (t1158.length : Int) := of_decide_eq_true (by first | (with_reducible assumption) | assumption); obtain ⟨ad1163, e1163, hx1163_0⟩ := Kd.at_string (Kd.R_reads' HO1161.out).2.2 0 p1163 q1163; cases e1163; have qi1163 : (0 < t1158.length) = True := eq_true (by omega); (try rw [show ((0 : Int)).toNat = 0 from rfl] at hx1163_0); (try rw [Addr.add_zero'] at hx1163_0); replace p1163 := eq_true p1163; replace q1163 := eq_true q1163))
                  go_ret
                  exact ⟨by first | rfl | (simp [errW_none, errW_some] <;> rfl) | (simp [*, errW_none, errW_some] <;> rfl), by repeat (first | (with_reducible first | exact HB.out | apply below_alloc | apply pw_below_drewN | apply below_drew1) | exact HB.out)⟩
                · rw [if_neg c15] at H
                  have c15b0 : ((rdOf ByteArray.empty t1158 0).toList == ([115, 105, 103, 110, 101, 100] : List UInt8)) = false := beq_eq_false_iff_ne.mpr c15
                  have c15b1 : ((rdOf ByteArray.empty t1158 0).toList != ([115, 105, 103, 110, 101, 100] : List UInt8)) = true := bne_iff_ne.mpr c15
                  obtain rfl := Option.some.inj H
                  have hu29 := Try.underlying29
                  go_enter Try.func59, Try.ntmps59
                  go_wp2_with (first | ((with_reducible refine gate_callee (f := 55) rfl ?_); refine goesL_ (some 8) rfl rfl Try.func55 (by kernel_rfl) rfl #[.int .i64 1, .string (⟨#[109, 46, 114, 111, 111, 109, 46, 109, 101, 109, 98, 101, 114]⟩ : ByteArray)] rfl (by (try simp only [List.map_toArray, List.map_cons, List.map_nil]); first | done | rfl | (simp only [List.length_drop, List.length_take]; rfl)) ?_; (with_reducible refine (keep_Content.calls 1 (⟨#[109, 46, 114, 111, 111, 109, 46, 109, 101, 109, 98, 101, 114]⟩ : ByteArray) t1150 false _ A1.out).mono ?_); rintro e w21 ⟨v1152, rfl, ho0, hb⟩; refine ⟨_, rfl, ?_⟩; have n0_ := Aside0.mk (Kd.R_lower ho0 (below_size (by repeat (first | (with_reducible first | exact HB.out | apply below_alloc | apply pw_below_drewN | apply below_drew1) | exact HB.out)))); have n1_ := Aside0.mk (below_step (by repeat (first | (with_reducible first | exact HB.out | apply below_alloc | apply pw_below_drewN | apply below_drew1) | exact HB.out)) hb); clear HB; have HO1153 := n0_; have HB := n1_; clear n0_ n1_; (try clear hb); (try clear hb2); (try clear hk); (try clear hi); (try clear ho0)) | ((with_reducible refine gate_callee (f := 55) rfl ?_); refine goesL_ (some 12) rfl rfl Try.func55 (by kernel_rfl) rfl #[.int .i64 11, .string (⟨#[109, 46, 114, 111, 111, 109, 46, 99, 114, 101, 97, 116, 101]⟩ : ByteArray)] rfl (by (try simp only [List.map_toArray, List.map_cons, List.map_nil]); first | done | rfl | (simp only [List.length_drop, List.length_take]; rfl)) ?_; (with_reducible refine (keep_Content.calls 11 (⟨#[109, 46, 114, 111, 111, 109, 46, 99, 114, 101, 97, 116, 101]⟩ : ByteArray) t1154 true _ A2.out).mono ?_); rintro e w22 ⟨v1156, rfl, ho0, hb⟩; refine ⟨_, rfl, ?_⟩; have n0_ := Aside0.mk (Kd.R_elder' (by (with_reducible repeat (first | apply Kd.R_alloc | apply Kd.R_drewN | apply Kd.R_drew)); exact HO1153.out) (Kd.R_base ho0) hb); have n1_ := Aside0.mk (Kd.R_lower (Kd.R_new' ho0 (Kd.R_lt (by (with_reducible repeat (first | apply Kd.R_alloc | apply Kd.R_drewN | apply Kd.R_drew)); exact HO1153.out))) (below_size (by repeat (first | (with_reducible first | exact HB.out | apply below_alloc | apply pw_below_drewN | apply below_drew1) | exact HB.out)))); have n2_ := Aside0.mk (below_step (by repeat (first | (with_reducible first | exact HB.out | apply below_alloc | apply pw_below_drewN | apply below_drew1) | exact HB.out)) hb); clear HO1153; clear HB; have HO1153 := n0_; have HO1157 := n1_; have HB := n2_; clear n0_ n1_ n2_; (try clear hb); (try clear hb2); (try clear hk); (try clear hi); (try clear ho0)) | ((with_reducible refine gate_callee (f := 57) rfl ?_); refine goesL_ (some 16) rfl rfl Try.func57 (by kernel_rfl) rfl #[.int .i64 11, .string (⟨#[109, 46, 114, 111, 111, 109, 46, 109, 101, 109, 98, 101, 114]⟩ : ByteArray), .string (⟨#[116, 104, 105, 114, 100, 95, 112, 97, 114, 116, 121, 95, 105, 110, 118, 105, 116, 101]⟩ : ByteArray)] rfl (by (try simp only [List.map_toArray, List.map_cons, List.map_nil]); first | done | rfl | (simp only [List.length_drop, List.length_take]; rfl)) ?_; (with_reducible refine (keep_Inner.calls 11 (⟨#[109, 46, 114, 111, 111, 109, 46, 109, 101, 109, 98, 101, 114]⟩ : ByteArray) (⟨#[116, 104, 105, 114, 100, 95, 112, 97, 114, 116, 121, 95, 105, 110, 118, 105, 116, 101]⟩ : ByteArray) t1158 t1159 _ A3.out).mono ?_); rintro e w23 ⟨v1160, rfl, ho0, hb⟩; refine ⟨_, rfl, ?_⟩; have n0_ := Aside0.mk (Kd.R_elder' (by (with_reducible repeat (first | apply Kd.R_alloc | apply Kd.R_drewN | apply Kd.R_drew)); exact HO1153.out) (Kd.R_base ho0) hb); have n1_ := Aside0.mk (Kd.R_elder' (by (with_reducible repeat (first | apply Kd.R_alloc | apply Kd.R_drewN | apply Kd.R_drew)); exact HO1157.out) (Kd.R_base ho0) hb); have n2_ := Aside0.mk (Kd.R_lower (Kd.R_new' (Kd.R_new' ho0 (Kd.R_lt (by (with_reducible repeat (first | apply Kd.R_alloc | apply Kd.R_drewN | apply Kd.R_drew)); exact HO1153.out))) (Kd.R_lt (by (with_reducible repeat (first | apply Kd.R_alloc | apply Kd.R_drewN | apply Kd.R_drew)); exact HO1157.out))) (below_size (by repeat (first | (with_reducible first | exact HB.out | apply below_alloc | apply pw_below_drewN | apply below_drew1) | exact HB.out)))); have n3_ := Aside0.mk (below_step (by repeat (first | (with_reducible first | exact HB.out | apply below_alloc | apply pw_below_drewN | apply below_drew1) | exact HB.out)) hb); clear HO1153; clear HO1157; clear HB; have HO1153 := n0_; have HO1157 := n1_; have HO1161 := n2_; have HB := n3_; clear n0_ n1_ n2_ n3_; (try clear hb); (try clear hb2); (try clear hk); (try clear hi); (try clear ho0); obtain ⟨Ao24, co24, eo24⟩ := Kd.R_slice HO1153.out; subst eo24; have p1162 : 0 ≤ (0 : Int) := (by omega); have q1162 : 0 < (t1150.length : Int) := of_decide_eq_true (by first | (with_reducible assumption) | assumption); obtain ⟨ad1162, e1162, hx1162_0⟩ := Kd.at_string (Kd.R_reads' HO1153.out).2.2 0 p1162 q1162; cases e1162; have qi1162 : (0 < t1150.length) = True := eq_true (by omega); (try rw [show ((0 : Int)).toNat = 0 from rfl] at hx1162_0); (try rw [Addr.add_zero'] at hx1162_0); replace p1162 := eq_true p1162; replace q1162 := eq_true q1162; obtain ⟨Ao25, co25, eo25⟩ := Kd.R_slice HO1161.out; subst eo25; have p1163 : 0 ≤ (0 : Int) := (by omega); have q1163 : 0 < (t1158.length : Int) := of_decide_eq_true (by first | (with_reducible assumption) | assumption); obtain ⟨ad1163, e1163, hx1163_0⟩ := Kd.at_string (Kd.R_reads' HO1161.out).2.2 0 p1163 q1163; cases e1163; have qi1163 : (0 < t1158.length) = True := eq_true (by omega); (try rw [show ((0 : Int)).toNat = 0 from rfl] at hx1163_0); (try rw [Addr.add_zero'] at hx1163_0); replace p1163 := eq_true p1163; replace q1163 := eq_true q1163))
                  go_ret
                  exact ⟨by first | rfl | (simp [errW_none, errW_some] <;> rfl) | (simp [*, errW_none, errW_some] <;> rfl), by repeat (first | (with_reducible first | exact HB.out | apply below_alloc | apply pw_below_drewN | apply below_drew1) | exact HB.out)⟩
              · rw [if_neg c14] at H
                exact absurd H (by simp)
            · rw [if_neg c13] at H
              have c13b0 : ((t1158.length : Int) == 1) = false := beq_eq_false_iff_ne.mpr c13
              have c13b1 : ((t1158.length : Int) != 1) = true := bne_iff_ne.mpr c13
              obtain rfl := Option.some.inj H
              have hu29 := Try.underlying29
              go_enter Try.func59, Try.ntmps59
              go_wp2_with (first | ((with_reducible refine gate_callee (f := 55) rfl ?_); refine goesL_ (some 8) rfl rfl Try.func55 (by kernel_rfl) rfl #[.int .i64 1, .string (⟨#[109, 46, 114, 111, 111, 109, 46, 109, 101, 109, 98, 101, 114]⟩ : ByteArray)] rfl (by (try simp only [List.map_toArray, List.map_cons, List.map_nil]); first | done | rfl | (simp only [List.length_drop, List.length_take]; rfl)) ?_; (with_reducible refine (keep_Content.calls 1 (⟨#[109, 46, 114, 111, 111, 109, 46, 109, 101, 109, 98, 101, 114]⟩ : ByteArray) t1150 false _ A1.out).mono ?_); rintro e w26 ⟨v1152, rfl, ho0, hb⟩; refine ⟨_, rfl, ?_⟩; have n0_ := Aside0.mk (Kd.R_lower ho0 (below_size (by repeat (first | (with_reducible first | exact HB.out | apply below_alloc | apply pw_below_drewN | apply below_drew1) | exact HB.out)))); have n1_ := Aside0.mk (below_step (by repeat (first | (with_reducible first | exact HB.out | apply below_alloc | apply pw_below_drewN | apply below_drew1) | exact HB.out)) hb); clear HB; have HO1153 := n0_; have HB := n1_; clear n0_ n1_; (try clear hb); (try clear hb2); (try clear hk); (try clear hi); (try clear ho0)) | ((with_reducible refine gate_callee (f := 55) rfl ?_); refine goesL_ (some 12) rfl rfl Try.func55 (by kernel_rfl) rfl #[.int .i64 11, .string (⟨#[109, 46, 114, 111, 111, 109, 46, 99, 114, 101, 97, 116, 101]⟩ : ByteArray)] rfl (by (try simp only [List.map_toArray, List.map_cons, List.map_nil]); first | done | rfl | (simp only [List.length_drop, List.length_take]; rfl)) ?_; (with_reducible refine (keep_Content.calls 11 (⟨#[109, 46, 114, 111, 111, 109, 46, 99, 114, 101, 97, 116, 101]⟩ : ByteArray) t1154 true _ A2.out).mono ?_); rintro e w27 ⟨v1156, rfl, ho0, hb⟩; refine ⟨_, rfl, ?_⟩; have n0_ := Aside0.mk (Kd.R_elder' (by (with_reducible repeat (first | apply Kd.R_alloc | apply Kd.R_drewN | apply Kd.R_drew)); exact HO1153.out) (Kd.R_base ho0) hb); have n1_ := Aside0.mk (Kd.R_lower (Kd.R_new' ho0 (Kd.R_lt (by (with_reducible repeat (first | apply Kd.R_alloc | apply Kd.R_drewN | apply Kd.R_drew)); exact HO1153.out))) (below_size (by repeat (first | (with_reducible first | exact HB.out | apply below_alloc | apply pw_below_drewN | apply below_drew1) | exact HB.out)))); have n2_ := Aside0.mk (below_step (by repeat (first | (with_reducible first | exact HB.out | apply below_alloc | apply pw_below_drewN | apply below_drew1) | exact HB.out)) hb); clear HO1153; clear HB; have HO1153 := n0_; have HO1157 := n1_; have HB := n2_; clear n0_ n1_ n2_; (try clear hb); (try clear hb2); (try clear hk); (try clear hi); (try clear ho0)) | ((with_reducible refine gate_callee (f := 57) rfl ?_); refine goesL_ (some 16) rfl rfl Try.func57 (by kernel_rfl) rfl #[.int .i64 11, .string (⟨#[109, 46, 114, 111, 111, 109, 46, 109, 101, 109, 98, 101, 114]⟩ : ByteArray), .string (⟨#[116, 104, 105, 114, 100, 95, 112, 97, 114, 116, 121, 95, 105, 110, 118, 105, 116, 101]⟩ : ByteArray)] rfl (by (try simp only [List.map_toArray, List.map_cons, List.map_nil]); first | done | rfl | (simp only [List.length_drop, List.length_take]; rfl)) ?_; (with_reducible refine (keep_Inner.calls 11 (⟨#[109, 46, 114, 111, 111, 109, 46, 109, 101, 109, 98, 101, 114]⟩ : ByteArray) (⟨#[116, 104, 105, 114, 100, 95, 112, 97, 114, 116, 121, 95, 105, 110, 118, 105, 116, 101]⟩ : ByteArray) t1158 t1159 _ A3.out).mono ?_); rintro e w28 ⟨v1160, rfl, ho0, hb⟩; refine ⟨_, rfl, ?_⟩; have n0_ := Aside0.mk (Kd.R_elder' (by (with_reducible repeat (first | apply Kd.R_alloc | apply Kd.R_drewN | apply Kd.R_drew)); exact HO1153.out) (Kd.R_base ho0) hb); have n1_ := Aside0.mk (Kd.R_elder' (by (with_reducible repeat (first | apply Kd.R_alloc | apply Kd.R_drewN | apply Kd.R_drew)); exact HO1157.out) (Kd.R_base ho0) hb); have n2_ := Aside0.mk (Kd.R_lower (Kd.R_new' (Kd.R_new' ho0 (Kd.R_lt (by (with_reducible repeat (first | apply Kd.R_alloc | apply Kd.R_drewN | apply Kd.R_drew)); exact HO1153.out))) (Kd.R_lt (by (with_reducible repeat (first | apply Kd.R_alloc | apply Kd.R_drewN | apply Kd.R_drew)); exact HO1157.out))) (below_size (by repeat (first | (with_reducible first | exact HB.out | apply below_alloc | apply pw_below_drewN | apply below_drew1) | exact HB.out)))); have n3_ := Aside0.mk (below_step (by repeat (first | (with_reducible first | exact HB.out | apply below_alloc | apply pw_below_drewN | apply below_drew1) | exact HB.out)) hb); clear HO1153; clear HO1157; clear HB; have HO1153 := n0_; have HO1157 := n1_; have HO1161 := n2_; have HB := n3_; clear n0_ n1_ n2_ n3_; (try clear hb); (try clear hb2); (try clear hk); (try clear hi); (try clear ho0); obtain ⟨Ao29, co29, eo29⟩ := Kd.R_slice HO1153.out; subst eo29; have p1162 : 0 ≤ (0 : Int) := (by omega); have q1162 : 0 < (t1150.length : Int) := of_decide_eq_true (by first | (with_reducible assumption) | assumption); obtain ⟨ad1162, e1162, hx1162_0⟩ := Kd.at_string (Kd.R_reads' HO1153.out).2.2 0 p1162 q1162; cases e1162; have qi1162 : (0 < t1150.length) = True := eq_true (by omega); (try rw [show ((0 : Int)).toNat = 0 from rfl] at hx1162_0); (try rw [Addr.add_zero'] at hx1162_0); replace p1162 := eq_true p1162; replace q1162 := eq_true q1162; obtain ⟨Ao30, co30, eo30⟩ := Kd.R_slice HO1161.out; subst eo30))
              go_ret
              exact ⟨by first | rfl | (simp [errW_none, errW_some] <;> rfl) | (simp [*, errW_none, errW_some] <;> rfl), by repeat (first | (with_reducible first | exact HB.out | apply below_alloc | apply pw_below_drewN | apply below_drew1) | exact HB.out)⟩
          · replace c12 := Bool.eq_false_iff.mpr c12
            subst c12
            have H1 : (some false) = some r := by rw [if_neg (show ¬ (false = true) by decide)] at H; exact H
            clear H
            have H := H1
            clear H1
            obtain rfl := Option.some.inj H
            have hu29 := Try.underlying29
            go_enter Try.func59, Try.ntmps59
            go_wp2_with (first | ((with_reducible refine gate_callee (f := 55) rfl ?_); refine goesL_ (some 8) rfl rfl Try.func55 (by kernel_rfl) rfl #[.int .i64 1, .string (⟨#[109, 46, 114, 111, 111, 109, 46, 109, 101, 109, 98, 101, 114]⟩ : ByteArray)] rfl (by (try simp only [List.map_toArray, List.map_cons, List.map_nil]); first | done | rfl | (simp only [List.length_drop, List.length_take]; rfl)) ?_; (with_reducible refine (keep_Content.calls 1 (⟨#[109, 46, 114, 111, 111, 109, 46, 109, 101, 109, 98, 101, 114]⟩ : ByteArray) t1150 false _ A1.out).mono ?_); rintro e w31 ⟨v1152, rfl, ho0, hb⟩; refine ⟨_, rfl, ?_⟩; have n0_ := Aside0.mk (Kd.R_lower ho0 (below_size (by repeat (first | (with_reducible first | exact HB.out | apply below_alloc | apply pw_below_drewN | apply below_drew1) | exact HB.out)))); have n1_ := Aside0.mk (below_step (by repeat (first | (with_reducible first | exact HB.out | apply below_alloc | apply pw_below_drewN | apply below_drew1) | exact HB.out)) hb); clear HB; have HO1153 := n0_; have HB := n1_; clear n0_ n1_; (try clear hb); (try clear hb2); (try clear hk); (try clear hi); (try clear ho0)) | ((with_reducible refine gate_callee (f := 55) rfl ?_); refine goesL_ (some 12) rfl rfl Try.func55 (by kernel_rfl) rfl #[.int .i64 11, .string (⟨#[109, 46, 114, 111, 111, 109, 46, 99, 114, 101, 97, 116, 101]⟩ : ByteArray)] rfl (by (try simp only [List.map_toArray, List.map_cons, List.map_nil]); first | done | rfl | (simp only [List.length_drop, List.length_take]; rfl)) ?_; (with_reducible refine (keep_Content.calls 11 (⟨#[109, 46, 114, 111, 111, 109, 46, 99, 114, 101, 97, 116, 101]⟩ : ByteArray) t1154 false _ A2.out).mono ?_); rintro e w32 ⟨v1156, rfl, ho0, hb⟩; refine ⟨_, rfl, ?_⟩; have n0_ := Aside0.mk (Kd.R_elder' (by (with_reducible repeat (first | apply Kd.R_alloc | apply Kd.R_drewN | apply Kd.R_drew)); exact HO1153.out) (Kd.R_base ho0) hb); have n1_ := Aside0.mk (Kd.R_lower (Kd.R_new' ho0 (Kd.R_lt (by (with_reducible repeat (first | apply Kd.R_alloc | apply Kd.R_drewN | apply Kd.R_drew)); exact HO1153.out))) (below_size (by repeat (first | (with_reducible first | exact HB.out | apply below_alloc | apply pw_below_drewN | apply below_drew1) | exact HB.out)))); have n2_ := Aside0.mk (below_step (by repeat (first | (with_reducible first | exact HB.out | apply below_alloc | apply pw_below_drewN | apply below_drew1) | exact HB.out)) hb); clear HO1153; clear HB; have HO1153 := n0_; have HO1157 := n1_; have HB := n2_; clear n0_ n1_ n2_; (try clear hb); (try clear hb2); (try clear hk); (try clear hi); (try clear ho0)) | ((with_reducible refine gate_callee (f := 57) rfl ?_); refine goesL_ (some 16) rfl rfl Try.func57 (by kernel_rfl) rfl #[.int .i64 11, .string (⟨#[109, 46, 114, 111, 111, 109, 46, 109, 101, 109, 98, 101, 114]⟩ : ByteArray), .string (⟨#[116, 104, 105, 114, 100, 95, 112, 97, 114, 116, 121, 95, 105, 110, 118, 105, 116, 101]⟩ : ByteArray)] rfl (by (try simp only [List.map_toArray, List.map_cons, List.map_nil]); first | done | rfl | (simp only [List.length_drop, List.length_take]; rfl)) ?_; (with_reducible refine (keep_Inner.calls 11 (⟨#[109, 46, 114, 111, 111, 109, 46, 109, 101, 109, 98, 101, 114]⟩ : ByteArray) (⟨#[116, 104, 105, 114, 100, 95, 112, 97, 114, 116, 121, 95, 105, 110, 118, 105, 116, 101]⟩ : ByteArray) t1158 t1159 _ A3.out).mono ?_); rintro e w33 ⟨v1160, rfl, ho0, hb⟩; refine ⟨_, rfl, ?_⟩; have n0_ := Aside0.mk (Kd.R_elder' (by (with_reducible repeat (first | apply Kd.R_alloc | apply Kd.R_drewN | apply Kd.R_drew)); exact HO1153.out) (Kd.R_base ho0) hb); have n1_ := Aside0.mk (Kd.R_elder' (by (with_reducible repeat (first | apply Kd.R_alloc | apply Kd.R_drewN | apply Kd.R_drew)); exact HO1157.out) (Kd.R_base ho0) hb); have n2_ := Aside0.mk (Kd.R_lower (Kd.R_new' (Kd.R_new' ho0 (Kd.R_lt (by (with_reducible repeat (first | apply Kd.R_alloc | apply Kd.R_drewN | apply Kd.R_drew)); exact HO1153.out))) (Kd.R_lt (by (with_reducible repeat (first | apply Kd.R_alloc | apply Kd.R_drewN | apply Kd.R_drew)); exact HO1157.out))) (below_size (by repeat (first | (with_reducible first | exact HB.out | apply below_alloc | apply pw_below_drewN | apply below_drew1) | exact HB.out)))); have n3_ := Aside0.mk (below_step (by repeat (first | (with_reducible first | exact HB.out | apply below_alloc | apply pw_below_drewN | apply below_drew1) | exact HB.out)) hb); clear HO1153; clear HO1157; clear HB; have HO1153 := n0_; have HO1157 := n1_; have HO1161 := n2_; have HB := n3_; clear n0_ n1_ n2_ n3_; (try clear hb); (try clear hb2); (try clear hk); (try clear hi); (try clear ho0); obtain ⟨Ao34, co34, eo34⟩ := Kd.R_slice HO1153.out; subst eo34; have p1162 : 0 ≤ (0 : Int) := (by omega); have q1162 : 0 < (t1150.length : Int) := of_decide_eq_true (by first | (with_reducible assumption) | assumption); obtain ⟨ad1162, e1162, hx1162_0⟩ := Kd.at_string (Kd.R_reads' HO1153.out).2.2 0 p1162 q1162; cases e1162; have qi1162 : (0 < t1150.length) = True := eq_true (by omega); (try rw [show ((0 : Int)).toNat = 0 from rfl] at hx1162_0); (try rw [Addr.add_zero'] at hx1162_0); replace p1162 := eq_true p1162; replace q1162 := eq_true q1162))
            go_ret
            exact ⟨by first | rfl | (simp [errW_none, errW_some] <;> rfl) | (simp [*, errW_none, errW_some] <;> rfl), by repeat (first | (with_reducible first | exact HB.out | apply below_alloc | apply pw_below_drewN | apply below_drew1) | exact HB.out)⟩
      · rw [if_neg c6] at H
        have c6b0 : ((rdOf ByteArray.empty t1150 0).toList == ([109, 101, 109, 98, 101, 114, 115, 104, 105, 112] : List UInt8)) = false := beq_eq_false_iff_ne.mpr c6
        have c6b1 : ((rdOf ByteArray.empty t1150 0).toList != ([109, 101, 109, 98, 101, 114, 115, 104, 105, 112] : List UInt8)) = true := bne_iff_ne.mpr c6
        obtain rfl := Option.some.inj H
        have hu29 := Try.underlying29
        go_enter Try.func59, Try.ntmps59
        go_wp2_with (first | ((with_reducible refine gate_callee (f := 55) rfl ?_); refine goesL_ (some 8) rfl rfl Try.func55 (by kernel_rfl) rfl #[.int .i64 1, .string (⟨#[109, 46, 114, 111, 111, 109, 46, 109, 101, 109, 98, 101, 114]⟩ : ByteArray)] rfl (by (try simp only [List.map_toArray, List.map_cons, List.map_nil]); first | done | rfl | (simp only [List.length_drop, List.length_take]; rfl)) ?_; (with_reducible refine (keep_Content.calls 1 (⟨#[109, 46, 114, 111, 111, 109, 46, 109, 101, 109, 98, 101, 114]⟩ : ByteArray) t1150 t1151 _ A1.out).mono ?_); rintro e w35 ⟨v1152, rfl, ho0, hb⟩; refine ⟨_, rfl, ?_⟩; have n0_ := Aside0.mk (Kd.R_lower ho0 (below_size (by repeat (first | (with_reducible first | exact HB.out | apply below_alloc | apply pw_below_drewN | apply below_drew1) | exact HB.out)))); have n1_ := Aside0.mk (below_step (by repeat (first | (with_reducible first | exact HB.out | apply below_alloc | apply pw_below_drewN | apply below_drew1) | exact HB.out)) hb); clear HB; have HO1153 := n0_; have HB := n1_; clear n0_ n1_; (try clear hb); (try clear hb2); (try clear hk); (try clear hi); (try clear ho0)) | ((with_reducible refine gate_callee (f := 55) rfl ?_); refine goesL_ (some 12) rfl rfl Try.func55 (by kernel_rfl) rfl #[.int .i64 11, .string (⟨#[109, 46, 114, 111, 111, 109, 46, 99, 114, 101, 97, 116, 101]⟩ : ByteArray)] rfl (by (try simp only [List.map_toArray, List.map_cons, List.map_nil]); first | done | rfl | (simp only [List.length_drop, List.length_take]; rfl)) ?_; (with_reducible refine (keep_Content.calls 11 (⟨#[109, 46, 114, 111, 111, 109, 46, 99, 114, 101, 97, 116, 101]⟩ : ByteArray) t1154 t1155 _ A2.out).mono ?_); rintro e w36 ⟨v1156, rfl, ho0, hb⟩; refine ⟨_, rfl, ?_⟩; have n0_ := Aside0.mk (Kd.R_elder' (by (with_reducible repeat (first | apply Kd.R_alloc | apply Kd.R_drewN | apply Kd.R_drew)); exact HO1153.out) (Kd.R_base ho0) hb); have n1_ := Aside0.mk (Kd.R_lower (Kd.R_new' ho0 (Kd.R_lt (by (with_reducible repeat (first | apply Kd.R_alloc | apply Kd.R_drewN | apply Kd.R_drew)); exact HO1153.out))) (below_size (by repeat (first | (with_reducible first | exact HB.out | apply below_alloc | apply pw_below_drewN | apply below_drew1) | exact HB.out)))); have n2_ := Aside0.mk (below_step (by repeat (first | (with_reducible first | exact HB.out | apply below_alloc | apply pw_below_drewN | apply below_drew1) | exact HB.out)) hb); clear HO1153; clear HB; have HO1153 := n0_; have HO1157 := n1_; have HB := n2_; clear n0_ n1_ n2_; (try clear hb); (try clear hb2); (try clear hk); (try clear hi); (try clear ho0)) | ((with_reducible refine gate_callee (f := 57) rfl ?_); refine goesL_ (some 16) rfl rfl Try.func57 (by kernel_rfl) rfl #[.int .i64 11, .string (⟨#[109, 46, 114, 111, 111, 109, 46, 109, 101, 109, 98, 101, 114]⟩ : ByteArray), .string (⟨#[116, 104, 105, 114, 100, 95, 112, 97, 114, 116, 121, 95, 105, 110, 118, 105, 116, 101]⟩ : ByteArray)] rfl (by (try simp only [List.map_toArray, List.map_cons, List.map_nil]); first | done | rfl | (simp only [List.length_drop, List.length_take]; rfl)) ?_; (with_reducible refine (keep_Inner.calls 11 (⟨#[109, 46, 114, 111, 111, 109, 46, 109, 101, 109, 98, 101, 114]⟩ : ByteArray) (⟨#[116, 104, 105, 114, 100, 95, 112, 97, 114, 116, 121, 95, 105, 110, 118, 105, 116, 101]⟩ : ByteArray) t1158 t1159 _ A3.out).mono ?_); rintro e w37 ⟨v1160, rfl, ho0, hb⟩; refine ⟨_, rfl, ?_⟩; have n0_ := Aside0.mk (Kd.R_elder' (by (with_reducible repeat (first | apply Kd.R_alloc | apply Kd.R_drewN | apply Kd.R_drew)); exact HO1153.out) (Kd.R_base ho0) hb); have n1_ := Aside0.mk (Kd.R_elder' (by (with_reducible repeat (first | apply Kd.R_alloc | apply Kd.R_drewN | apply Kd.R_drew)); exact HO1157.out) (Kd.R_base ho0) hb); have n2_ := Aside0.mk (Kd.R_lower (Kd.R_new' (Kd.R_new' ho0 (Kd.R_lt (by (with_reducible repeat (first | apply Kd.R_alloc | apply Kd.R_drewN | apply Kd.R_drew)); exact HO1153.out))) (Kd.R_lt (by (with_reducible repeat (first | apply Kd.R_alloc | apply Kd.R_drewN | apply Kd.R_drew)); exact HO1157.out))) (below_size (by repeat (first | (with_reducible first | exact HB.out | apply below_alloc | apply pw_below_drewN | apply below_drew1) | exact HB.out)))); have n3_ := Aside0.mk (below_step (by repeat (first | (with_reducible first | exact HB.out | apply below_alloc | apply pw_below_drewN | apply below_drew1) | exact HB.out)) hb); clear HO1153; clear HO1157; clear HB; have HO1153 := n0_; have HO1157 := n1_; have HO1161 := n2_; have HB := n3_; clear n0_ n1_ n2_ n3_; (try clear hb); (try clear hb2); (try clear hk); (try clear hi); (try clear ho0); obtain ⟨Ao38, co38, eo38⟩ := Kd.R_slice HO1153.out; subst eo38; have p1162 : 0 ≤ (0 : Int) := (by omega); have q1162 : 0 < (t1150.length : Int) := of_decide_eq_true (by first | (with_reducible assumption) | assumption); obtain ⟨ad1162, e1162, hx1162_0⟩ := Kd.at_string (Kd.R_reads' HO1153.out).2.2 0 p1162 q1162; cases e1162; have qi1162 : (0 < t1150.length) = True := eq_true (by omega); (try rw [show ((0 : Int)).toNat = 0 from rfl] at hx1162_0); (try rw [Addr.add_zero'] at hx1162_0); replace p1162 := eq_true p1162; replace q1162 := eq_true q1162))
        go_ret
        exact ⟨by first | rfl | (simp [errW_none, errW_some] <;> rfl) | (simp [*, errW_none, errW_some] <;> rfl), by repeat (first | (with_reducible first | exact HB.out | apply below_alloc | apply pw_below_drewN | apply below_drew1) | exact HB.out)⟩
    · rw [if_neg c5] at H
      exact absurd H (by simp)
  · rw [if_neg c4] at H
    have c4b0 : ((t1150.length : Int) == 1) = false := beq_eq_false_iff_ne.mpr c4
    have c4b1 : ((t1150.length : Int) != 1) = true := bne_iff_ne.mpr c4
    obtain rfl := Option.some.inj H
    have hu29 := Try.underlying29
    go_enter Try.func59, Try.ntmps59
    go_wp2_with (first | ((with_reducible refine gate_callee (f := 55) rfl ?_); refine goesL_ (some 8) rfl rfl Try.func55 (by kernel_rfl) rfl #[.int .i64 1, .string (⟨#[109, 46, 114, 111, 111, 109, 46, 109, 101, 109, 98, 101, 114]⟩ : ByteArray)] rfl (by (try simp only [List.map_toArray, List.map_cons, List.map_nil]); first | done | rfl | (simp only [List.length_drop, List.length_take]; rfl)) ?_; (with_reducible refine (keep_Content.calls 1 (⟨#[109, 46, 114, 111, 111, 109, 46, 109, 101, 109, 98, 101, 114]⟩ : ByteArray) t1150 t1151 _ A1.out).mono ?_); rintro e w39 ⟨v1152, rfl, ho0, hb⟩; refine ⟨_, rfl, ?_⟩; have n0_ := Aside0.mk (Kd.R_lower ho0 (below_size (by repeat (first | (with_reducible first | exact HB.out | apply below_alloc | apply pw_below_drewN | apply below_drew1) | exact HB.out)))); have n1_ := Aside0.mk (below_step (by repeat (first | (with_reducible first | exact HB.out | apply below_alloc | apply pw_below_drewN | apply below_drew1) | exact HB.out)) hb); clear HB; have HO1153 := n0_; have HB := n1_; clear n0_ n1_; (try clear hb); (try clear hb2); (try clear hk); (try clear hi); (try clear ho0)) | ((with_reducible refine gate_callee (f := 55) rfl ?_); refine goesL_ (some 12) rfl rfl Try.func55 (by kernel_rfl) rfl #[.int .i64 11, .string (⟨#[109, 46, 114, 111, 111, 109, 46, 99, 114, 101, 97, 116, 101]⟩ : ByteArray)] rfl (by (try simp only [List.map_toArray, List.map_cons, List.map_nil]); first | done | rfl | (simp only [List.length_drop, List.length_take]; rfl)) ?_; (with_reducible refine (keep_Content.calls 11 (⟨#[109, 46, 114, 111, 111, 109, 46, 99, 114, 101, 97, 116, 101]⟩ : ByteArray) t1154 t1155 _ A2.out).mono ?_); rintro e w40 ⟨v1156, rfl, ho0, hb⟩; refine ⟨_, rfl, ?_⟩; have n0_ := Aside0.mk (Kd.R_elder' (by (with_reducible repeat (first | apply Kd.R_alloc | apply Kd.R_drewN | apply Kd.R_drew)); exact HO1153.out) (Kd.R_base ho0) hb); have n1_ := Aside0.mk (Kd.R_lower (Kd.R_new' ho0 (Kd.R_lt (by (with_reducible repeat (first | apply Kd.R_alloc | apply Kd.R_drewN | apply Kd.R_drew)); exact HO1153.out))) (below_size (by repeat (first | (with_reducible first | exact HB.out | apply below_alloc | apply pw_below_drewN | apply below_drew1) | exact HB.out)))); have n2_ := Aside0.mk (below_step (by repeat (first | (with_reducible first | exact HB.out | apply below_alloc | apply pw_below_drewN | apply below_drew1) | exact HB.out)) hb); clear HO1153; clear HB; have HO1153 := n0_; have HO1157 := n1_; have HB := n2_; clear n0_ n1_ n2_; (try clear hb); (try clear hb2); (try clear hk); (try clear hi); (try clear ho0)) | ((with_reducible refine gate_callee (f := 57) rfl ?_); refine goesL_ (some 16) rfl rfl Try.func57 (by kernel_rfl) rfl #[.int .i64 11, .string (⟨#[109, 46, 114, 111, 111, 109, 46, 109, 101, 109, 98, 101, 114]⟩ : ByteArray), .string (⟨#[116, 104, 105, 114, 100, 95, 112, 97, 114, 116, 121, 95, 105, 110, 118, 105, 116, 101]⟩ : ByteArray)] rfl (by (try simp only [List.map_toArray, List.map_cons, List.map_nil]); first | done | rfl | (simp only [List.length_drop, List.length_take]; rfl)) ?_; (with_reducible refine (keep_Inner.calls 11 (⟨#[109, 46, 114, 111, 111, 109, 46, 109, 101, 109, 98, 101, 114]⟩ : ByteArray) (⟨#[116, 104, 105, 114, 100, 95, 112, 97, 114, 116, 121, 95, 105, 110, 118, 105, 116, 101]⟩ : ByteArray) t1158 t1159 _ A3.out).mono ?_); rintro e w41 ⟨v1160, rfl, ho0, hb⟩; refine ⟨_, rfl, ?_⟩; have n0_ := Aside0.mk (Kd.R_elder' (by (with_reducible repeat (first | apply Kd.R_alloc | apply Kd.R_drewN | apply Kd.R_drew)); exact HO1153.out) (Kd.R_base ho0) hb); have n1_ := Aside0.mk (Kd.R_elder' (by (with_reducible repeat (first | apply Kd.R_alloc | apply Kd.R_drewN | apply Kd.R_drew)); exact HO1157.out) (Kd.R_base ho0) hb); have n2_ := Aside0.mk (Kd.R_lower (Kd.R_new' (Kd.R_new' ho0 (Kd.R_lt (by (with_reducible repeat (first | apply Kd.R_alloc | apply Kd.R_drewN | apply Kd.R_drew)); exact HO1153.out))) (Kd.R_lt (by (with_reducible repeat (first | apply Kd.R_alloc | apply Kd.R_drewN | apply Kd.R_drew)); exact HO1157.out))) (below_size (by repeat (first | (with_reducible first | exact HB.out | apply below_alloc | apply pw_below_drewN | apply below_drew1) | exact HB.out)))); have n3_ := Aside0.mk (below_step (by repeat (first | (with_reducible first | exact HB.out | apply below_alloc | apply pw_below_drewN | apply below_drew1) | exact HB.out)) hb); clear HO1153; clear HO1157; clear HB; have HO1153 := n0_; have HO1157 := n1_; have HO1161 := n2_; have HB := n3_; clear n0_ n1_ n2_ n3_; (try clear hb); (try clear hb2); (try clear hk); (try clear hi); (try clear ho0); obtain ⟨Ao42, co42, eo42⟩ := Kd.R_slice HO1153.out; subst eo42))
    go_ret
    exact ⟨by first | rfl | (simp [errW_none, errW_some] <;> rfl) | (simp [*, errW_none, errW_some] <;> rfl), by repeat (first | (with_reducible first | exact HB.out | apply below_alloc | apply pw_below_drewN | apply below_drew1) | exact HB.out)⟩
end Go.Proofs.Ytbnmcnghmnhigaa.X
end
section
namespace Go.Proofs.Ytbnmcnghmnhigaa.X
open Go.RowKit Go.Proofs.YtbnmcnghmnhigaaW.PrintWords Go.Proofs.YtbnmcnghmnhigaaW.PrintLast Go.Proofs.YtbnmcnghmnhigaaW.PrintMore Go.WideMaps Go.Maps
set_option linter.unusedVariables false
set_option linter.unusedSimpArgs false
abbrev keepT : List ByteArray := [(⟨#[97, 117, 116, 104, 95, 101, 118, 101, 110, 116, 115]⟩ : ByteArray), (⟨#[99, 111, 110, 116, 101, 110, 116]⟩ : ByteArray), (⟨#[100, 101, 112, 116, 104]⟩ : ByteArray), (⟨#[101, 118, 101, 110, 116, 95, 105, 100]⟩ : ByteArray), (⟨#[104, 97, 115, 104, 101, 115]⟩ : ByteArray), (⟨#[111, 114, 105, 103, 105, 110, 95, 115, 101, 114, 118, 101, 114, 95, 116, 115]⟩ : ByteArray), (⟨#[112, 114, 101, 118, 95, 101, 118, 101, 110, 116, 115]⟩ : ByteArray), (⟨#[114, 111, 111, 109, 95, 105, 100]⟩ : ByteArray), (⟨#[115, 101, 110, 100, 101, 114]⟩ : ByteArray), (⟨#[115, 105, 103, 110, 97, 116, 117, 114, 101, 115]⟩ : ByteArray), (⟨#[115, 116, 97, 116, 101, 95, 107, 101, 121]⟩ : ByteArray), (⟨#[116, 121, 112, 101]⟩ : ByteArray)]
abbrev keepU : List ByteArray := [(⟨#[109, 101, 109, 98, 101, 114, 115, 104, 105, 112]⟩ : ByteArray), (⟨#[111, 114, 105, 103, 105, 110]⟩ : ByteArray), (⟨#[112, 114, 101, 118, 95, 115, 116, 97, 116, 101]⟩ : ByteArray)]
def keep_Top.f (a0 : Int) : Option (List ByteArray × Int) :=
  (version_Of.f a0).bind fun t => if t.2.2.2.2.2.2.2 = 0 then (if t.2.2.2.2.2.2.1 = true then some (keepT, 0) else some (sortB (keepT ++ keepU), 0)) else some ([], t.2.2.2.2.2.2.2)
theorem own_new {base : Nat} (W : World) (hb : base ≤ W.heap.size) (l : List ByteArray) (hl : l.length ≤ 100) : (W.alloc (.cells (l.map Value.string).toArray 9)).ownsRow base 9 1 (.slice (some ⟨W.heap.size, 0, none⟩) l.length l.length) l.length (encs Value.string l) :=
  ⟨by rw [Nat.mul_one]; exact List.length_map _, .inr ⟨W.heap.size, l.length, _, rfl, hb, blk_new _ _, Nat.le_refl _, by unfold maxLen; omega, by simp, by rw [Nat.mul_one]; exact List.take_of_length_le (by simp)⟩⟩
theorem top_size (w1 : World) (o : Obj) : (w1.alloc o).heap.size = w1.heap.size + 1 := by unfold World.alloc; simp
theorem top_own {w w1 : World} (h : Below w.heap.size w w1) (o : Obj) : ((w1.alloc o).alloc (.cells (keepT.map Value.string).toArray 9)).ownsRow w.heap.size 9 1 (.slice (some ⟨w1.heap.size + 1, 0, none⟩) 12 12) 12 (encs Value.string keepT) := by
  have := own_new (base := w.heap.size) (w1.alloc o) (by rw [top_size]; have := h.size; omega) keepT (by decide)
  rw [top_size] at this
  exact this
theorem top_own2 {w w1 : World} (h : Below w.heap.size w w1) (o : Obj) : (((w1.alloc o).alloc (.cells (keepT.map Value.string).toArray 9)).alloc (.cells (keepU.map Value.string).toArray 9)).ownsRow w.heap.size 9 1 (.slice (some ⟨w1.heap.size + 1 + 1, 0, none⟩) 3 3) 3 (encs Value.string keepU) := by
  have := own_new (base := w.heap.size) ((w1.alloc o).alloc (.cells (keepT.map Value.string).toArray 9)) (by rw [top_size, top_size]; have := h.size; omega) keepU (by decide)
  rw [top_size, top_size] at this
  exact this
set_option maxHeartbeats 8000000 in
set_option maxRecDepth 100000 in
theorem keep_Top.calls (a0 : Int) (r1 : List ByteArray) (r2 : Int) (w : World) (h : keep_Top.f a0 = some (r1, r2)) :
  Calls Try.prog 52 #[.int .i64 a0] w fun e w' => ∃ v0_ : Value, e = .returned (.tuple #[v0_, .int .i64 r2]) ∧ Kd.R Kd.string 9 w' w.heap.size (fun _ => True) v0_ r1 ∧ Below w.heap.size w w' := by
  unfold keep_Top.f at h
  obtain ⟨⟨t0, t1, t2, t3, t4, t5, t6, t7⟩, A0, H⟩ := Option.bind_eq_some_iff.mp h
  clear h
  have A := Aside0.mk A0
  clear A0
  simp only at H
  by_cases c7 : t7 = 0
  case neg =>
    rw [if_neg c7] at H
    simp only [Option.some.injEq, Prod.mk.injEq] at H
    obtain ⟨rfl, rfl⟩ := H
    have c7a : (t7 == 0) = false := by simp [c7]
    have c7b : (t7 != 0) = true := by simp [c7]
    clear c7
    go_enter Try.func52, Try.ntmps52
    go_wp2_with (first | (go_at_call 100; with_reducible refine (version_Of.calls a0 t0 t1 t2 t3 t4 t5 t6 t7 _ A.out).mono ?_; rintro e w1 ⟨rfl, hb1⟩; have B1 := Aside0.mk hb1; clear hb1))
    go_ret2
    exact ⟨_, rfl, Kd.R_nil _ _ _ _ _, below_alloc B1.out _⟩
  subst c7
  rw [if_pos rfl] at H
  cases t6 with
  | true =>
    rw [if_pos rfl] at H
    simp only [Option.some.injEq, Prod.mk.injEq] at H
    obtain ⟨rfl, rfl⟩ := H
    go_enter Try.func52, Try.ntmps52
    go_wp2_with (first | (go_at_call 100; with_reducible refine (version_Of.calls a0 t0 t1 t2 t3 t4 t5 true 0 _ A.out).mono ?_; rintro e w1 ⟨rfl, hb1⟩; have B1 := Aside0.mk hb1; clear hb1))
    go_ret2
    exact ⟨_, rfl, R_of_own' (top_own B1.out _), below_alloc (below_alloc B1.out _) _⟩
  | false =>
    rw [if_neg (by decide)] at H
    simp only [Option.some.injEq, Prod.mk.injEq] at H
    obtain ⟨rfl, rfl⟩ := H
    go_enter Try.func52, Try.ntmps52
    go_wp2_with (first | (go_at_call 100; with_reducible refine (version_Of.calls a0 t0 t1 t2 t3 t4 t5 false 0 _ A.out).mono ?_; rintro e w1 ⟨rfl, hb1⟩; have B1 := Aside0.mk hb1; clear hb1) | ((with_reducible refine gate_builtin (b := .append) (xs := #[.tmp 19, .tmp 20]) rfl ?_); at_builtin; refine Kd.R_append_rows Kd.string (w0 := w) w.heap.size rfl (.tmp 19) (.tmp 20) 22 9 (.string ⟨#[]⟩) 16 rfl Try.underlying22 info9 rfl (by decide) (by omega) (.slice (some ⟨w1.heap.size + 1, 0, none⟩) 12 12) keepT keepU _ _ _ (fun _ => True) (fun _ => False) rfl rfl ?aO ?aR (fun _ _ h => h) (fun _ h => h.elim) (fun _ _ => trivial) (below_alloc (below_alloc (below_alloc B1.out _) _) _) (below_alloc (below_alloc (below_alloc B1.out _) _) _).size (by decide) ?_; (case aO => exact Kd.R_alloc (R_of_own' (top_own B1.out _)) _); (case aR => exact (Kd.R_reads' (R_of_own' (top_own2 B1.out _))).2.2); intro v2 w2 hR2 hb2 hg2 hat2; have R2 := Aside0.mk (own_of_R' hR2); have B2 := Aside0.mk hb2; clear hR2 hb2 hg2 hat2) | (go_at_call 101; with_reducible refine (sort_own _ R2.out (by decide)).mono ?_; rintro e w3 ⟨rfl, ho, hg⟩; have HO := Aside0.mk ho; have HG := Aside0.mk hg; clear ho hg))
    go_ret2
    exact ⟨_, rfl, R_of_own' HO.out, grown_own R2.out B2.out HG.out⟩
end Go.Proofs.Ytbnmcnghmnhigaa.X
end
