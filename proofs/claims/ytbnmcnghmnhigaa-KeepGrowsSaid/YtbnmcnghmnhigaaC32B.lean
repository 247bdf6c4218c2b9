import Derived.Test.YtbnmcnghmnhigaaC32B2
import Derived.Test.YtbnmcnghmnhigaaRows
import Derived.WalkKit
import Derived.ProofKit
import Derived.OpenShut
import Derived.ShutString
import Derived.ChangeOld
import Derived.Below
import Derived.SizedLaws
section
namespace Go.Proofs.Ytbnmcnghmnhigaa.X
open Go.RowKit Go.Proofs.YtbnmcnghmnhigaaW.PrintWords Go.Proofs.YtbnmcnghmnhigaaW.PrintLast Go.Proofs.YtbnmcnghmnhigaaW.PrintMore
attribute [local go_sem] max2_int min2_int max_two min_two max_three min_three max_four min_four
set_option linter.unusedVariables false
set_option linter.unusedSimpArgs false
def sealringref32_Content.f (k : Nat) (a0 : Int) (a1 : ByteArray) : Option (List ByteArray × Bool) := (sealringref26_Of.f a0).bind fun bt1068 => (if bt1068.2 = true then (if a1.toList = ([109, 46, 114, 111, 111, 109, 46, 109, 101, 109, 98, 101, 114] : List UInt8) then (if 5 < (bt1068.1.length : Int) then (if 6 < (bt1068.1.length : Int) then ((sealringref32_some.f k (([(⟨#[106, 111, 105, 110, 95, 97, 117, 116, 104, 111, 114, 105, 115, 101, 100, 95, 118, 105, 97, 95, 117, 115, 101, 114, 115, 95, 115, 101, 114, 118, 101, 114]⟩ : ByteArray), (⟨#[109, 101, 109, 98, 101, 114, 115, 104, 105, 112]⟩ : ByteArray), (⟨#[116, 104, 105, 114, 100, 95, 112, 97, 114, 116, 121, 95, 105, 110, 118, 105, 116, 101]⟩ : ByteArray)] : List ByteArray)) (([rdOf false bt1068.1 5, true, rdOf false bt1068.1 6] : List Bool))).bind fun t1080 => (some (t1080, false))) else (none)) else (none)) else (if a1.toList = ([109, 46, 114, 111, 111, 109, 46, 99, 114, 101, 97, 116, 101] : List UInt8) then (if 6 < (bt1068.1.length : Int) then (if rdOf false bt1068.1 6 = true then (some (([] : List ByteArray), true)) else (some ((([(⟨#[99, 114, 101, 97, 116, 111, 114]⟩ : ByteArray)] : List ByteArray)), false))) else (none)) else (if a1.toList = ([109, 46, 114, 111, 111, 109, 46, 106, 111, 105, 110, 95, 114, 117, 108, 101, 115] : List UInt8) then (if 4 < (bt1068.1.length : Int) then ((sealringref32_some.f k (([(⟨#[97, 108, 108, 111, 119]⟩ : ByteArray), (⟨#[106, 111, 105, 110, 95, 114, 117, 108, 101]⟩ : ByteArray)] : List ByteArray)) (([rdOf false bt1068.1 4, true] : List Bool))).bind fun t1094 => (some (t1094, false))) else (none)) else (if a1.toList = ([109, 46, 114, 111, 111, 109, 46, 112, 111, 119, 101, 114, 95, 108, 101, 118, 101, 108, 115] : List UInt8) then (if 6 < (bt1068.1.length : Int) then ((sealringref32_some.f k (([(⟨#[98, 97, 110]⟩ : ByteArray), (⟨#[101, 118, 101, 110, 116, 115]⟩ : ByteArray), (⟨#[101, 118, 101, 110, 116, 115, 95, 100, 101, 102, 97, 117, 108, 116]⟩ : ByteArray), (⟨#[105, 110, 118, 105, 116, 101]⟩ : ByteArray), (⟨#[107, 105, 99, 107]⟩ : ByteArray), (⟨#[114, 101, 100, 97, 99, 116]⟩ : ByteArray), (⟨#[115, 116, 97, 116, 101, 95, 100, 101, 102, 97, 117, 108, 116]⟩ : ByteArray), (⟨#[117, 115, 101, 114, 115]⟩ : ByteArray), (⟨#[117, 115, 101, 114, 115, 95, 100, 101, 102, 97, 117, 108, 116]⟩ : ByteArray)] : List ByteArray)) (([true, true, true, rdOf false bt1068.1 6, true, true, true, true, true] : List Bool))).bind fun t1104 => (some (t1104, false))) else (none)) else (if a1.toList = ([109, 46, 114, 111, 111, 109, 46, 97, 108, 105, 97, 115, 101, 115] : List UInt8) then (if 3 < (bt1068.1.length : Int) then ((sealringref32_some.f k (([(⟨#[97, 108, 105, 97, 115, 101, 115]⟩ : ByteArray)] : List ByteArray)) (([rdOf false bt1068.1 3] : List Bool))).bind fun t1114 => (some (t1114, false))) else (none)) else (if a1.toList = ([109, 46, 114, 111, 111, 109, 46, 104, 105, 115, 116, 111, 114, 121, 95, 118, 105, 115, 105, 98, 105, 108, 105, 116, 121] : List UInt8) then (some ((([(⟨#[104, 105, 115, 116, 111, 114, 121, 95, 118, 105, 115, 105, 98, 105, 108, 105, 116, 121]⟩ : ByteArray)] : List ByteArray)), false)) else (if a1.toList = ([109, 46, 114, 111, 111, 109, 46, 114, 101, 100, 97, 99, 116, 105, 111, 110] : List UInt8) then (if 6 < (bt1068.1.length : Int) then ((sealringref32_some.f k (([(⟨#[114, 101, 100, 97, 99, 116, 115]⟩ : ByteArray)] : List ByteArray)) (([rdOf false bt1068.1 6] : List Bool))).bind fun t1127 => (some (t1127, false))) else (none)) else (some (([] : List ByteArray), false))))))))) else (some (([] : List ByteArray), false)))
theorem sealringref32_Content.mono : ∀ a0 a1 k, LeO (sealringref32_Content.f k a0 a1) (sealringref32_Content.f (k + 1) a0 a1) := by
  intro a0 a1 k
  unfold sealringref32_Content.f
  repeat' first
      | (with_reducible exact sealringref32_some.mono _ _ _)
      | (with_reducible exact LeO.refl _)
      | (with_reducible exact LeO.none _)
      | (with_reducible refine LeO.ite ?_ ?_)
      | (with_reducible refine LeO.bind ?_ (fun _ => ?_))
      | exact sealringref32_some.mono _ _ _
      | exact LeO.none _
      | refine LeO.ite ?_ ?_
      | refine LeO.bind ?_ (fun _ => ?_)
def sealringref32_Content.T6 : Bool × List (List Nat × List Nat) := (true, [([], []), ([], []), ([1], [1]), ([2], [2]), ([], []), ([4], [4]), ([5], [5]), ([3, 6], [3, 6]), ([0, 7], [0, 7]), ([8, 8, 0, 1, 2, 3, 4, 5, 6, 7, 8], [8]), ([9, 0, 1, 2, 3, 4, 5, 6, 7, 8, 9], [])])
def sealringref32_Content.B6 : List Nat := [0, 0, 2, 6, 0, 16, 48, 126, 255, 511, 1023]
theorem sealringref32_Content.tab6 : rtab .any (opsOf Try.f56 6) = sealringref32_Content.T6 := by kernel_rfl
theorem sealringref32_Content.bits6 : waitsOk sealringref32_Content.T6.2 sealringref32_Content.B6 = true := by kernel_rfl
set_option maxHeartbeats 8000000 in
set_option maxRecDepth 100000 in
theorem sealringref32_Content.calls (k : Nat) (a0 : Int) (a1 : ByteArray) (r1 : List ByteArray) (r2 : Bool) (w : World) (h : sealringref32_Content.f k a0 a1 = some (r1, r2)) :
    Calls Try.prog 56 #[.int .i64 a0, .string a1] w fun e w' => ∃ v0_ : Value, e = .returned (.tuple #[v0_, .bool r2]) ∧ Kd.R Kd.string 9 w' w.heap.size (fun _ => True) v0_ r1 ∧ Below w.heap.size w w' := by
  have HB := Aside0.mk (Below.refl w.heap.size w)
  have H : ((sealringref26_Of.f a0).bind fun bt1068 => (if bt1068.2 = true then (if a1.toList = ([109, 46, 114, 111, 111, 109, 46, 109, 101, 109, 98, 101, 114] : List UInt8) then (if 5 < (bt1068.1.length : Int) then (if 6 < (bt1068.1.length : Int) then ((sealringref32_some.f k (([(⟨#[106, 111, 105, 110, 95, 97, 117, 116, 104, 111, 114, 105, 115, 101, 100, 95, 118, 105, 97, 95, 117, 115, 101, 114, 115, 95, 115, 101, 114, 118, 101, 114]⟩ : ByteArray), (⟨#[109, 101, 109, 98, 101, 114, 115, 104, 105, 112]⟩ : ByteArray), (⟨#[116, 104, 105, 114, 100, 95, 112, 97, 114, 116, 121, 95, 105, 110, 118, 105, 116, 101]⟩ : ByteArray)] : List ByteArray)) (([rdOf false bt1068.1 5, true, rdOf false bt1068.1 6] : List Bool))).bind fun t1080 => (some (t1080, false))) else (none)) else (none)) else (if a1.toList = ([109, 46, 114, 111, 111, 109, 46, 99, 114, 101, 97, 116, 101] : List UInt8) then (if 6 < (bt1068.1.length : Int) then (if rdOf false bt1068.1 6 = true then (some (([] : List ByteArray), true)) else (some ((([(⟨#[99, 114, 101, 97, 116, 111, 114]⟩ : ByteArray)] : List ByteArray)), false))) else (none)) else (if a1.toList = ([109, 46, 114, 111, 111, 109, 46, 106, 111, 105, 110, 95, 114, 117, 108, 101, 115] : List UInt8) then (if 4 < (bt1068.1.length : Int) then ((sealringref32_some.f k (([(⟨#[97, 108, 108, 111, 119]⟩ : ByteArray), (⟨#[106, 111, 105, 110, 95, 114, 117, 108, 101]⟩ : ByteArray)] : List ByteArray)) (([rdOf false bt1068.1 4, true] : List Bool))).bind fun t1094 => (some (t1094, false))) else (none)) else (if a1.toList = ([109, 46, 114, 111, 111, 109, 46, 112, 111, 119, 101, 114, 95, 108, 101, 118, 101, 108, 115] : List UInt8) then (if 6 < (bt1068.1.length : Int) then ((sealringref32_some.f k (([(⟨#[98, 97, 110]⟩ : ByteArray), (⟨#[101, 118, 101, 110, 116, 115]⟩ : ByteArray), (⟨#[101, 118, 101, 110, 116, 115, 95, 100, 101, 102, 97, 117, 108, 116]⟩ : ByteArray), (⟨#[105, 110, 118, 105, 116, 101]⟩ : ByteArray), (⟨#[107, 105, 99, 107]⟩ : ByteArray), (⟨#[114, 101, 100, 97, 99, 116]⟩ : ByteArray), (⟨#[115, 116, 97, 116, 101, 95, 100, 101, 102, 97, 117, 108, 116]⟩ : ByteArray), (⟨#[117, 115, 101, 114, 115]⟩ : ByteArray), (⟨#[117, 115, 101, 114, 115, 95, 100, 101, 102, 97, 117, 108, 116]⟩ : ByteArray)] : List ByteArray)) (([true, true, true, rdOf false bt1068.1 6, true, true, true, true, true] : List Bool))).bind fun t1104 => (some (t1104, false))) else (none)) else (if a1.toList = ([109, 46, 114, 111, 111, 109, 46, 97, 108, 105, 97, 115, 101, 115] : List UInt8) then (if 3 < (bt1068.1.length : Int) then ((sealringref32_some.f k (([(⟨#[97, 108, 105, 97, 115, 101, 115]⟩ : ByteArray)] : List ByteArray)) (([rdOf false bt1068.1 3] : List Bool))).bind fun t1114 => (some (t1114, false))) else (none)) else (if a1.toList = ([109, 46, 114, 111, 111, 109, 46, 104, 105, 115, 116, 111, 114, 121, 95, 118, 105, 115, 105, 98, 105, 108, 105, 116, 121] : List UInt8) then (some ((([(⟨#[104, 105, 115, 116, 111, 114, 121, 95, 118, 105, 115, 105, 98, 105, 108, 105, 116, 121]⟩ : ByteArray)] : List ByteArray)), false)) else (if a1.toList = ([109, 46, 114, 111, 111, 109, 46, 114, 101, 100, 97, 99, 116, 105, 111, 110] : List UInt8) then (if 6 < (bt1068.1.length : Int) then ((sealringref32_some.f k (([(⟨#[114, 101, 100, 97, 99, 116, 115]⟩ : ByteArray)] : List ByteArray)) (([rdOf false bt1068.1 6] : List Bool))).bind fun t1127 => (some (t1127, false))) else (none)) else (some (([] : List ByteArray), false))))))))) else (some (([] : List ByteArray), false)))) = some (r1, r2) := h
  clear h
  replace H := Option.bind_eq_some_iff.mp H
  obtain ⟨⟨t1068, t1069⟩, A30, H⟩ := H
  replace H : (if t1069 = true then (if a1.toList = ([109, 46, 114, 111, 111, 109, 46, 109, 101, 109, 98, 101, 114] : List UInt8) then (if 5 < (t1068.length : Int) then (if 6 < (t1068.length : Int) then ((sealringref32_some.f k (([(⟨#[106, 111, 105, 110, 95, 97, 117, 116, 104, 111, 114, 105, 115, 101, 100, 95, 118, 105, 97, 95, 117, 115, 101, 114, 115, 95, 115, 101, 114, 118, 101, 114]⟩ : ByteArray), (⟨#[109, 101, 109, 98, 101, 114, 115, 104, 105, 112]⟩ : ByteArray), (⟨#[116, 104, 105, 114, 100, 95, 112, 97, 114, 116, 121, 95, 105, 110, 118, 105, 116, 101]⟩ : ByteArray)] : List ByteArray)) (([rdOf false t1068 5, true, rdOf false t1068 6] : List Bool))).bind fun t1080 => (some (t1080, false))) else (none)) else (none)) else (if a1.toList = ([109, 46, 114, 111, 111, 109, 46, 99, 114, 101, 97, 116, 101] : List UInt8) then (if 6 < (t1068.length : Int) then (if rdOf false t1068 6 = true then (some (([] : List ByteArray), true)) else (some ((([(⟨#[99, 114, 101, 97, 116, 111, 114]⟩ : ByteArray)] : List ByteArray)), false))) else (none)) else (if a1.toList = ([109, 46, 114, 111, 111, 109, 46, 106, 111, 105, 110, 95, 114, 117, 108, 101, 115] : List UInt8) then (if 4 < (t1068.length : Int) then ((sealringref32_some.f k (([(⟨#[97, 108, 108, 111, 119]⟩ : ByteArray), (⟨#[106, 111, 105, 110, 95, 114, 117, 108, 101]⟩ : ByteArray)] : List ByteArray)) (([rdOf false t1068 4, true] : List Bool))).bind fun t1094 => (some (t1094, false))) else (none)) else (if a1.toList = ([109, 46, 114, 111, 111, 109, 46, 112, 111, 119, 101, 114, 95, 108, 101, 118, 101, 108, 115] : List UInt8) then (if 6 < (t1068.length : Int) then ((sealringref32_some.f k (([(⟨#[98, 97, 110]⟩ : ByteArray), (⟨#[101, 118, 101, 110, 116, 115]⟩ : ByteArray), (⟨#[101, 118, 101, 110, 116, 115, 95, 100, 101, 102, 97, 117, 108, 116]⟩ : ByteArray), (⟨#[105, 110, 118, 105, 116, 101]⟩ : ByteArray), (⟨#[107, 105, 99, 107]⟩ : ByteArray), (⟨#[114, 101, 100, 97, 99, 116]⟩ : ByteArray), (⟨#[115, 116, 97, 116, 101, 95, 100, 101, 102, 97, 117, 108, 116]⟩ : ByteArray), (⟨#[117, 115, 101, 114, 115]⟩ : ByteArray), (⟨#[117, 115, 101, 114, 115, 95, 100, 101, 102, 97, 117, 108, 116]⟩ : ByteArray)] : List ByteArray)) (([true, true, true, rdOf false t1068 6, true, true, true, true, true] : List Bool))).bind fun t1104 => (some (t1104, false))) else (none)) else (if a1.toList = ([109, 46, 114, 111, 111, 109, 46, 97, 108, 105, 97, 115, 101, 115] : List UInt8) then (if 3 < (t1068.length : Int) then ((sealringref32_some.f k (([(⟨#[97, 108, 105, 97, 115, 101, 115]⟩ : ByteArray)] : List ByteArray)) (([rdOf false t1068 3] : List Bool))).bind fun t1114 => (some (t1114, false))) else (none)) else (if a1.toList = ([109, 46, 114, 111, 111, 109, 46, 104, 105, 115, 116, 111, 114, 121, 95, 118, 105, 115, 105, 98, 105, 108, 105, 116, 121] : List UInt8) then (some ((([(⟨#[104, 105, 115, 116, 111, 114, 121, 95, 118, 105, 115, 105, 98, 105, 108, 105, 116, 121]⟩ : ByteArray)] : List ByteArray)), false)) else (if a1.toList = ([109, 46, 114, 111, 111, 109, 46, 114, 101, 100, 97, 99, 116, 105, 111, 110] : List UInt8) then (if 6 < (t1068.length : Int) then ((sealringref32_some.f k (([(⟨#[114, 101, 100, 97, 99, 116, 115]⟩ : ByteArray)] : List ByteArray)) (([rdOf false t1068 6] : List Bool))).bind fun t1127 => (some (t1127, false))) else (none)) else (some (([] : List ByteArray), false))))))))) else (some (([] : List ByteArray), false))) = some (r1, r2) := H
  have A3 := Aside0.mk A30
  clear A30
  by_cases c4 : t1069 = true
  · subst c4
    have H1 : (if a1.toList = ([109, 46, 114, 111, 111, 109, 46, 109, 101, 109, 98, 101, 114] : List UInt8) then (if 5 < (t1068.length : Int) then (if 6 < (t1068.length : Int) then ((sealringref32_some.f k (([(⟨#[106, 111, 105, 110, 95, 97, 117, 116, 104, 111, 114, 105, 115, 101, 100, 95, 118, 105, 97, 95, 117, 115, 101, 114, 115, 95, 115, 101, 114, 118, 101, 114]⟩ : ByteArray), (⟨#[109, 101, 109, 98, 101, 114, 115, 104, 105, 112]⟩ : ByteArray), (⟨#[116, 104, 105, 114, 100, 95, 112, 97, 114, 116, 121, 95, 105, 110, 118, 105, 116, 101]⟩ : ByteArray)] : List ByteArray)) (([rdOf false t1068 5, true, rdOf false t1068 6] : List Bool))).bind fun t1080 => (some (t1080, false))) else (none)) else (none)) else (if a1.toList = ([109, 46, 114, 111, 111, 109, 46, 99, 114, 101, 97, 116, 101] : List UInt8) then (if 6 < (t1068.length : Int) then (if rdOf false t1068 6 = true then (some (([] : List ByteArray), true)) else (some ((([(⟨#[99, 114, 101, 97, 116, 111, 114]⟩ : ByteArray)] : List ByteArray)), false))) else (none)) else (if a1.toList = ([109, 46, 114, 111, 111, 109, 46, 106, 111, 105, 110, 95, 114, 117, 108, 101, 115] : List UInt8) then (if 4 < (t1068.length : Int) then ((sealringref32_some.f k (([(⟨#[97, 108, 108, 111, 119]⟩ : ByteArray), (⟨#[106, 111, 105, 110, 95, 114, 117, 108, 101]⟩ : ByteArray)] : List ByteArray)) (([rdOf false t1068 4, true] : List Bool))).bind fun t1094 => (some (t1094, false))) else (none)) else (if a1.toList = ([109, 46, 114, 111, 111, 109, 46, 112, 111, 119, 101, 114, 95, 108, 101, 118, 101, 108, 115] : List UInt8) then (if 6 < (t1068.length : Int) then ((sealringref32_some.f k (([(⟨#[98, 97, 110]⟩ : ByteArray), (⟨#[101, 118, 101, 110, 116, 115]⟩ : ByteArray), (⟨#[101, 118, 101, 110, 116, 115, 95, 100, 101, 102, 97, 117, 108, 116]⟩ : ByteArray), (⟨#[105, 110, 118, 105, 116, 101]⟩ : ByteArray), (⟨#[107, 105, 99, 107]⟩ : ByteArray), (⟨#[114, 101, 100, 97, 99, 116]⟩ : ByteArray), (⟨#[115, 116, 97, 116, 101, 95, 100, 101, 102, 97, 117, 108, 116]⟩ : ByteArray), (⟨#[117, 115, 101, 114, 115]⟩ : ByteArray), (⟨#[117, 115, 101, 114, 115, 95, 100, 101, 102, 97, 117, 108, 116]⟩ : ByteArray)] : List ByteArray)) (([true, true, true, rdOf false t1068 6, true, true, true, true, true] : List Bool))).bind fun t1104 => (some (t1104, false))) else (none)) else (if a1.toList = ([109, 46, 114, 111, 111, 109, 46, 97, 108, 105, 97, 115, 101, 115] : List UInt8) then (if 3 < (t1068.length : Int) then ((sealringref32_some.f k (([(⟨#[97, 108, 105, 97, 115, 101, 115]⟩ : ByteArray)] : List ByteArray)) (([rdOf false t1068 3] : List Bool))).bind fun t1114 => (some (t1114, false))) else (none)) else (if a1.toList = ([109, 46, 114, 111, 111, 109, 46, 104, 105, 115, 116, 111, 114, 121, 95, 118, 105, 115, 105, 98, 105, 108, 105, 116, 121] : List UInt8) then (some ((([(⟨#[104, 105, 115, 116, 111, 114, 121, 95, 118, 105, 115, 105, 98, 105, 108, 105, 116, 121]⟩ : ByteArray)] : List ByteArray)), false)) else (if a1.toList = ([109, 46, 114, 111, 111, 109, 46, 114, 101, 100, 97, 99, 116, 105, 111, 110] : List UInt8) then (if 6 < (t1068.length : Int) then ((sealringref32_some.f k (([(⟨#[114, 101, 100, 97, 99, 116, 115]⟩ : ByteArray)] : List ByteArray)) (([rdOf false t1068 6] : List Bool))).bind fun t1127 => (some (t1127, false))) else (none)) else (some (([] : List ByteArray), false))))))))) = some (r1, r2) := by rw [if_pos rfl] at H; exact H
    clear H
    have H := H1
    clear H1
    by_cases c5 : a1.toList = ([109, 46, 114, 111, 111, 109, 46, 109, 101, 109, 98, 101, 114] : List UInt8)
    · rw [if_pos c5] at H
      have c5b0 : (a1.toList == ([109, 46, 114, 111, 111, 109, 46, 109, 101, 109, 98, 101, 114] : List UInt8)) = true := beq_iff_eq.mpr c5
      have c5b1 : (a1.toList != ([109, 46, 114, 111, 111, 109, 46, 109, 101, 109, 98, 101, 114] : List UInt8)) = false := bne_eq_false_iff_eq.mpr c5
      clear c5
      obtain ⟨y1072, hy1072⟩ : ∃ y_ : List ByteArray, y_ = (([(⟨#[106, 111, 105, 110, 95, 97, 117, 116, 104, 111, 114, 105, 115, 101, 100, 95, 118, 105, 97, 95, 117, 115, 101, 114, 115, 95, 115, 101, 114, 118, 101, 114]⟩ : ByteArray), (⟨#[109, 101, 109, 98, 101, 114, 115, 104, 105, 112]⟩ : ByteArray), (⟨#[116, 104, 105, 114, 100, 95, 112, 97, 114, 116, 121, 95, 105, 110, 118, 105, 116, 101]⟩ : ByteArray)] : List ByteArray)) := ⟨_, rfl⟩
      replace H : (if 5 < (t1068.length : Int) then (if 6 < (t1068.length : Int) then ((sealringref32_some.f k y1072 (([rdOf false t1068 5, true, rdOf false t1068 6] : List Bool))).bind fun t1080 => (some (t1080, false))) else (none)) else (none)) = some (r1, r2) := by first | (rw [hy1072]; with_reducible exact H) | (have H2_ := (Option.bind_some _ _).symm.trans H; rw [hy1072]; with_reducible exact H2_) | (have H2_ := (Option.bind_some _ _).symm.trans H; with_reducible exact H2_) | with_reducible exact H | (rw [hy1072]; exact H) | exact H
      have Ny1072 := Aside0.mk hy1072
      clear hy1072
      by_cases c6 : 5 < (t1068.length : Int)
      · rw [if_pos c6] at H
        have c6b0 : decide (5 < (t1068.length : Int)) = true := decide_eq_true c6
        have c6b1 : decide (5 < t1068.length) = true := decide_eq_true (by omega)
        clear c6
        by_cases c7 : 6 < (t1068.length : Int)
        · rw [if_pos c7] at H
          have c7b0 : decide (6 < (t1068.length : Int)) = true := decide_eq_true c7
          have c7b1 : decide (6 < t1068.length) = true := decide_eq_true (by omega)
          clear c7
          obtain ⟨y1077, hy1077⟩ : ∃ y_ : List Bool, y_ = (([rdOf false t1068 5, true, rdOf false t1068 6] : List Bool)) := ⟨_, rfl⟩
          replace H : ((sealringref32_some.f k y1072 y1077).bind fun t1080 => (some (t1080, false))) = some (r1, r2) := by first | (rw [hy1077]; with_reducible exact H) | (have H2_ := (Option.bind_some _ _).symm.trans H; rw [hy1077]; with_reducible exact H2_) | (have H2_ := (Option.bind_some _ _).symm.trans H; with_reducible exact H2_) | with_reducible exact H | (rw [hy1077]; exact H) | exact H
          have Ny1077 := Aside0.mk hy1077
          clear hy1077
          replace H := Option.bind_eq_some_iff.mp H
          obtain ⟨t1080, A80, H⟩ := H
          replace H : (some (t1080, false)) = some (r1, r2) := H
          have A8 := Aside0.mk A80
          clear A80
          simp only [Option.some.injEq, Prod.mk.injEq] at H
          obtain ⟨rfl, rfl⟩ := H
          go_enter Try.func56, Try.ntmps56
          try go_wp2_with (first | ((with_reducible refine gate_callee (f := 102) rfl ?_); refine goesL_ (some 10) rfl rfl Try.func102 (by kernel_rfl) rfl #[.int .i64 a0] rfl (by (try simp only [List.map_toArray, List.map_cons, List.map_nil]); first | done | rfl | (simp only [List.length_drop, List.length_take]; rfl)) ?_; (with_reducible refine (sealringref26_Of.calls a0 t1068 true _ A3.out).mono ?_); rintro e w9 ⟨v1070, rfl, ho0, hb⟩; refine ⟨_, rfl, ?_⟩; have n0_ := Aside0.mk (Kd.R_lower ho0 (below_size (by repeat (first | (with_reducible first | exact HB.out | apply below_alloc | apply pw_below_drewN | apply below_drew1) | exact HB.out)))); have n1_ := Aside0.mk (below_step (by repeat (first | (with_reducible first | exact HB.out | apply below_alloc | apply pw_below_drewN | apply below_drew1) | exact HB.out)) hb); clear HB; have HO1071 := n0_; have HB := n1_; clear n0_ n1_; (try clear hb); (try clear hb2); (try clear hk); (try clear hi); (try clear ho0)))
          have n0_ := Aside0.mk (Kd.R_drew HO1071.out)
          have n1_ := Aside0.mk (below_drew1 HB.out)
          clear HO1071
          clear HB
          have HO1071 := n0_
          have HB := n1_
          clear n0_ n1_
          obtain ⟨Ao11, co11, eo11⟩ := Kd.R_slice HO1071.out
          (first | subst eo11 | (injection eo11 with f1_ f2_ f3_; have f4_ := f1_.symm; have f5_ := f3_.symm; clear f1_ f2_ f3_; subst f4_; subst f5_))
          have p1075 : 0 ≤ (5 : Int) := (by omega)
          have q1075 : 5 < (t1068.length : Int) := of_decide_eq_true (by first | (with_reducible assumption) | assumption)
          obtain ⟨ad1075, e1075, hx1075_0⟩ := Kd.at_bool (Kd.R_reads' HO1071.out).2.2 5 p1075 q1075
          cases e1075
          (try simp only [show (5 : Int).toNat = 5 from rfl, Nat.reduceMul, Nat.reduceEqDiff, Go.Addr.add, ↓reduceIte] at hx1075_0)
          have qi1075 : (5 < t1068.length) = True := eq_true (by omega)
          (try rw [show ((5 : Int)).toNat = 5 from rfl] at hx1075_0)
          replace p1075 := eq_true p1075
          replace q1075 := eq_true q1075
          have p1076 : 0 ≤ (6 : Int) := (by omega)
          have q1076 : 6 < (t1068.length : Int) := of_decide_eq_true (by first | (with_reducible assumption) | assumption)
          obtain ⟨ad1076, e1076, hx1076_0⟩ := Kd.at_bool (Kd.R_reads' HO1071.out).2.2 6 p1076 q1076
          obtain rfl : ad1075 = ad1076 := (by injection e1076)
          (try simp only [show (6 : Int).toNat = 6 from rfl, Nat.reduceMul, Nat.reduceEqDiff, Go.Addr.add, ↓reduceIte] at hx1076_0)
          have qi1076 : (6 < t1068.length) = True := eq_true (by omega)
          (try rw [show ((6 : Int)).toNat = 6 from rfl] at hx1076_0)
          replace p1076 := eq_true p1076
          replace q1076 := eq_true q1076
          refine start_ (n := 11) (S := fun w' => True) (ds := []) #[false, false, false, false, false, false, false, false, false, false, false] (by kernel_rfl) rfl rfl trivial (fun hHeld => ?_); refine with_tabW sealringref32_Content.tab6 sealringref32_Content.bits6 (fun HT_ HW_ => ?_)
          generalize w9.drew = w10 at HO1071 HB hx1075_0 hx1076_0 hHeld ⊢
          refine pure_ (i := 1) (N := some 19) (v := ?_) (a' := ?_) #[false, true, false, false, false, false, false, false, false, false, false] rfl rfl (any_of HT_.out (by kernel_rfl)) (fun _ _ _ h => h) (Or.inl ⟨by rfl, ?_⟩) ?_ ?_
          rotate_left
          · intro w'
            go_simp
            with_reducible rfl
          rotate_left
          · simp only [Act.put, List.setIfInBounds_toArray, List.set_cons_zero, List.set_cons_succ, i64_w, i32_w]
            rfl
          refine pure_ (i := 4) (N := some 22) (v := ?_) (a' := ?_) #[false, true, false, false, true, false, false, false, false, false, false] rfl rfl (any_of HT_.out (by kernel_rfl)) (fun _ _ _ h => h) (Or.inl ⟨by rfl, ?_⟩) ?_ ?_
          rotate_left
          · intro w'
            go_simp
            with_reducible rfl
          rotate_left
          · simp only [Act.put, List.setIfInBounds_toArray, List.set_cons_zero, List.set_cons_succ, i64_w, i32_w]
            rfl
          refine inv_at [0, 2, 3, 5, 6, 7, 8, 9, 10] (fun a0_ b a w' => ∃ (v1073 : Value) (v1078 : Value) (v1081 : Value) (m9_ : Value), a = putSel a0_ b [(0, 18, v1073), (2, 20, .pointer (some (ad1075.add 5))), (3, 21, .bool (rdOf false t1068 5)), (5, 23, .pointer (some (ad1075.add 6))), (6, 24, .bool (rdOf false t1068 6)), (7, 25, v1078), (8, 26, v1081), (9, 4, m9_), (10, 5, .bool false)] ∧ (Kd.R Kd.bool 4 w' w.heap.size (fun _ => True) (.slice (some ad1075) t1068.length co11) t1068) ∧ (Below w.heap.size w w') ∧ (b 0 = true → Kd.R Kd.string 9 w' w.heap.size (fun _ => True) v1073 y1072) ∧ (b 7 = true → Kd.R Kd.bool 4 w' w.heap.size (fun k_ => some k_ ≠ (.slice (some ad1075) t1068.length co11 : Value).ownBlock) v1078 y1077) ∧ (b 8 = true → Kd.R Kd.string 9 w' w.heap.size (fun _ => True) v1081 t1080) ∧ (b 9 = true → (m9_ : Value) = v1081)) HT_.out HW_.out (by kernel_rfl) (by kernel_rfl) ?_ ?_ ?_
          · exact ⟨.bool false, .bool false, .bool false, .bool false, by simp only [putSel, Bool.false_eq_true, if_false], HO1071.out, HB.out, fun h_ => absurd h_ (by decide), fun h_ => absurd h_ (by decide), fun h_ => absurd h_ (by decide), fun h_ => absurd h_ (by decide)⟩
          · skip
            clear HB HO1071
            refine steps_cons ?_ ?_
            · rintro b a w' ⟨v1073, v1078, v1081, m9_, ha, Q_HO1071, Q_HB, Q_HO1074, Q_HO1079, Q_HO1082, Q_X9_⟩ hb_ hon hoff
              refine ⟨_, rfl, fun K hK => ?_⟩
              replace ha := Aside0.mk ha
              have HO1071 := Aside0.mk Q_HO1071
              have HB := Aside0.mk Q_HB
              refine Kd.R_lit_step Kd.string _ 9 ?hg (N := 18) ?hd (xs := ([(⟨#[106, 111, 105, 110, 95, 97, 117, 116, 104, 111, 114, 105, 115, 101, 100, 95, 118, 105, 97, 95, 117, 115, 101, 114, 115, 95, 115, 101, 114, 118, 101, 114]⟩ : ByteArray), (⟨#[109, 101, 109, 98, 101, 114, 115, 104, 105, 112]⟩ : ByteArray), (⟨#[116, 104, 105, 114, 100, 95, 112, 97, 114, 116, 121, 95, 105, 110, 118, 105, 116, 101]⟩ : ByteArray)] : List ByteArray)) (inner := [.string (⟨#[106, 111, 105, 110, 95, 97, 117, 116, 104, 111, 114, 105, 115, 101, 100, 95, 118, 105, 97, 95, 117, 115, 101, 114, 115, 95, 115, 101, 114, 118, 101, 114]⟩ : ByteArray), .string (⟨#[109, 101, 109, 98, 101, 114, 115, 104, 105, 112]⟩ : ByteArray), .string (⟨#[116, 104, 105, 114, 100, 95, 112, 97, 114, 116, 121, 95, 105, 110, 118, 105, 116, 101]⟩ : ByteArray)]) (ok := fun _ => True) (okp := fun _ => True) ?hr ?hp (fun _ hk => hk) trivial (Below.refl _ _) (Nat.le_refl _) (by simp) ?_; (case hd => rfl); (case hg => rfl); (case hr => first | (go_simp; done) | (go_simp; rfl)); (case hp => exact (Reps.one (show Kd.M Kd.string _ _ _ (⟨#[106, 111, 105, 110, 95, 97, 117, 116, 104, 111, 114, 105, 115, 101, 100, 95, 118, 105, 97, 95, 117, 115, 101, 114, 115, 95, 115, 101, 114, 118, 101, 114]⟩ : ByteArray) [.string (⟨#[106, 111, 105, 110, 95, 97, 117, 116, 104, 111, 114, 105, 115, 101, 100, 95, 118, 105, 97, 95, 117, 115, 101, 114, 115, 95, 115, 101, 114, 118, 101, 114]⟩ : ByteArray)] from rfl) (Reps.one (show Kd.M Kd.string _ _ _ (⟨#[109, 101, 109, 98, 101, 114, 115, 104, 105, 112]⟩ : ByteArray) [.string (⟨#[109, 101, 109, 98, 101, 114, 115, 104, 105, 112]⟩ : ByteArray)] from rfl) (Reps.one (show Kd.M Kd.string _ _ _ (⟨#[116, 104, 105, 114, 100, 95, 112, 97, 114, 116, 121, 95, 105, 110, 118, 105, 116, 101]⟩ : ByteArray) [.string (⟨#[116, 104, 105, 114, 100, 95, 112, 97, 114, 116, 121, 95, 105, 110, 118, 105, 116, 101]⟩ : ByteArray)] from rfl) (Reps.none _ _)))))
              intro v1073 w12 ho13 hb hg_ hnew_
              clear hg_ hnew_
              (first | rw [← Ny1072.out] at ho13 | (simp only [Int.reduceToNat] at ho13; rw [← Ny1072.out] at ho13))
              have n0_ := Aside0.mk (Kd.R_below (by (with_reducible repeat (first | apply Kd.R_alloc | apply Kd.R_drewN | apply Kd.R_drew)); exact HO1071.out) hb)
              have n1_ := Aside0.mk (Kd.R_lower ho13 (below_size (by repeat (first | (with_reducible first | exact HB.out | apply below_alloc | apply pw_below_drewN | apply below_drew1) | exact HB.out))))
              have n2_ := Aside0.mk (below_step (by repeat (first | (with_reducible first | exact HB.out | apply below_alloc | apply pw_below_drewN | apply below_drew1) | exact HB.out)) hb)
              have z_HO1079 := fun (h0_ : b 7 = true) => (show Kd.R Kd.bool 4 w12 w.heap.size (fun k_ => some k_ ≠ (.slice (some ad1075) t1068.length co11 : Value).ownBlock) v1078 y1077 from by first | exact (Kd.R_below (by (with_reducible repeat (first | apply Kd.R_alloc | apply Kd.R_drewN | apply Kd.R_drew)); exact (Q_HO1079 h0_)) hb) | exact Kd.R_mono (Kd.R_below (by (with_reducible repeat (first | apply Kd.R_alloc | apply Kd.R_drewN | apply Kd.R_drew)); exact (Q_HO1079 h0_)) hb) (fun _ h_ => by first | trivial | exact h_ | exact h_.1))
              clear HO1071
              clear HB
              have HO1071 := n0_
              have HO1074 := n1_
              have HB := n2_
              clear n0_ n1_ n2_
              clear hb ho13
              refine hK.out _ _ ⟨v1073, v1078, v1081, m9_, (by rw [ha.out]; exact putSel_upk 0 hb_ rfl rfl rfl), (by (with_reducible repeat (first | apply Kd.R_alloc | apply Kd.R_drewN | apply Kd.R_drew)); exact HO1071.out), (by repeat (first | (with_reducible first | exact HB.out | apply below_alloc | apply pw_below_drewN | apply below_drew1) | exact HB.out)), fun _ => (by (with_reducible repeat (first | apply Kd.R_alloc | apply Kd.R_drewN | apply Kd.R_drew)); exact HO1074.out), z_HO1079, fun h0_ => absurd ((hoff 8 (by kernel_rfl)).symm.trans h0_) (by decide), fun h0_ => absurd ((hoff 9 (by kernel_rfl)).symm.trans h0_) (by decide)⟩
            refine steps_cons ?_ ?_
            · rintro b a w' ⟨v1073, v1078, v1081, m9_, ha, Q_HO1071, Q_HB, Q_HO1074, Q_HO1079, Q_HO1082, Q_X9_⟩ hb_ hon hoff
              refine ⟨_, rfl, fun K hK => ?_⟩
              have e19 : a.tmps[19]? = some (.slice (some ad1075) t1068.length co11) := by rw [ha]; exact (putSel_off rfl).trans rfl
              replace ha := Aside0.mk ha
              have HO1071 := Aside0.mk Q_HO1071
              have HB := Aside0.mk Q_HB
              refine value_ (w1 := w') (v := .pointer (some (ad1075.add 5))) (by rfl) rfl ?_ ?_
              · go_simp
                (try simp only [i64_w])
                try rfl
              refine hK.out _ _ ⟨v1073, v1078, v1081, m9_, (by rw [ha.out]; exact putSel_upk 1 hb_ rfl rfl rfl), Q_HO1071, Q_HB, Q_HO1074, fun h0_ => absurd ((hoff 7 (by kernel_rfl)).symm.trans h0_) (by decide), fun h0_ => absurd ((hoff 8 (by kernel_rfl)).symm.trans h0_) (by decide), fun h0_ => absurd ((hoff 9 (by kernel_rfl)).symm.trans h0_) (by decide)⟩
            refine steps_cons ?_ ?_
            · rintro b a w' ⟨v1073, v1078, v1081, m9_, ha, Q_HO1071, Q_HB, Q_HO1074, Q_HO1079, Q_HO1082, Q_X9_⟩ hb_ hon hoff
              refine ⟨_, rfl, fun K hK => ?_⟩
              have e20 : a.tmps[20]? = some (.pointer (some (ad1075.add 5))) := by rw [ha]; exact putSel_on (e := (2, 20, .pointer (some (ad1075.add 5)))) 1 rfl rfl (hon 2 (by kernel_rfl)) rfl
              replace ha := Aside0.mk ha
              have HO1071 := Aside0.mk Q_HO1071
              have HB := Aside0.mk Q_HB
              obtain ⟨ad1075_z, e1075_z, hx1075_0_z⟩ := Kd.at_bool (Kd.R_reads' HO1071.out).2.2 5 (of_eq_true p1075) (of_eq_true q1075)
              cases e1075_z
              have hs0_ : w'.cell? ⟨ad1075.block, ad1075.off + 5, none⟩ = some (.bool (rdOf false t1068 5)) := (by first | exact hx1075_0_z | (have h_ := hx1075_0_z; (try simp only [Int.reduceToNat, Nat.zero_mul, Nat.reduceMul, Nat.reduceEqDiff, Go.Addr.add, ↓reduceIte, Addr.add_zero'] at h_); exact h_))
              refine value_ (w1 := w') (v := .bool (rdOf false t1068 5)) (by rfl) rfl ?_ ?_
              · go_simp
                (try simp only [i64_w])
                try rfl
              refine hK.out _ _ ⟨v1073, v1078, v1081, m9_, (by rw [ha.out]; exact putSel_upk 2 hb_ rfl rfl rfl), Q_HO1071, Q_HB, Q_HO1074, fun h0_ => absurd ((hoff 7 (by kernel_rfl)).symm.trans h0_) (by decide), fun h0_ => absurd ((hoff 8 (by kernel_rfl)).symm.trans h0_) (by decide), fun h0_ => absurd ((hoff 9 (by kernel_rfl)).symm.trans h0_) (by decide)⟩
            refine steps_cons ?_ ?_
            · rintro b a w' ⟨v1073, v1078, v1081, m9_, ha, Q_HO1071, Q_HB, Q_HO1074, Q_HO1079, Q_HO1082, Q_X9_⟩ hb_ hon hoff
              refine ⟨_, rfl, fun K hK => ?_⟩
              have e22 : a.tmps[22]? = some (.slice (some ad1075) t1068.length co11) := by rw [ha]; exact (putSel_off rfl).trans rfl
              replace ha := Aside0.mk ha
              have HO1071 := Aside0.mk Q_HO1071
              have HB := Aside0.mk Q_HB
              refine value_ (w1 := w') (v := .pointer (some (ad1075.add 6))) (by rfl) rfl ?_ ?_
              · go_simp
                (try simp only [i64_w])
                try rfl
              refine hK.out _ _ ⟨v1073, v1078, v1081, m9_, (by rw [ha.out]; exact putSel_upk 3 hb_ rfl rfl rfl), Q_HO1071, Q_HB, Q_HO1074, fun h0_ => absurd ((hoff 7 (by kernel_rfl)).symm.trans h0_) (by decide), fun h0_ => absurd ((hoff 8 (by kernel_rfl)).symm.trans h0_) (by decide), fun h0_ => absurd ((hoff 9 (by kernel_rfl)).symm.trans h0_) (by decide)⟩
            refine steps_cons ?_ ?_
            · rintro b a w' ⟨v1073, v1078, v1081, m9_, ha, Q_HO1071, Q_HB, Q_HO1074, Q_HO1079, Q_HO1082, Q_X9_⟩ hb_ hon hoff
              refine ⟨_, rfl, fun K hK => ?_⟩
              have e23 : a.tmps[23]? = some (.pointer (some (ad1075.add 6))) := by rw [ha]; exact putSel_on (e := (5, 23, .pointer (some (ad1075.add 6)))) 3 rfl rfl (hon 5 (by kernel_rfl)) rfl
              replace ha := Aside0.mk ha
              have HO1071 := Aside0.mk Q_HO1071
              have HB := Aside0.mk Q_HB
              obtain ⟨ad1076_z, e1076_z, hx1076_0_z⟩ := Kd.at_bool (Kd.R_reads' HO1071.out).2.2 6 (of_eq_true p1076) (of_eq_true q1076)
              cases e1076_z
              have hs1_ : w'.cell? ⟨ad1075.block, ad1075.off + 6, none⟩ = some (.bool (rdOf false t1068 6)) := (by first | exact hx1076_0_z | (have h_ := hx1076_0_z; (try simp only [Int.reduceToNat, Nat.zero_mul, Nat.reduceMul, Nat.reduceEqDiff, Go.Addr.add, ↓reduceIte, Addr.add_zero'] at h_); exact h_))
              refine value_ (w1 := w') (v := .bool (rdOf false t1068 6)) (by rfl) rfl ?_ ?_
              · go_simp
                (try simp only [i64_w])
                try rfl
              refine hK.out _ _ ⟨v1073, v1078, v1081, m9_, (by rw [ha.out]; exact putSel_upk 4 hb_ rfl rfl rfl), Q_HO1071, Q_HB, Q_HO1074, fun h0_ => absurd ((hoff 7 (by kernel_rfl)).symm.trans h0_) (by decide), fun h0_ => absurd ((hoff 8 (by kernel_rfl)).symm.trans h0_) (by decide), fun h0_ => absurd ((hoff 9 (by kernel_rfl)).symm.trans h0_) (by decide)⟩
            refine steps_cons ?_ ?_
            · rintro b a w' ⟨v1073, v1078, v1081, m9_, ha, Q_HO1071, Q_HB, Q_HO1074, Q_HO1079, Q_HO1082, Q_X9_⟩ hb_ hon hoff
              refine ⟨_, rfl, fun K hK => ?_⟩
              have e21 : a.tmps[21]? = some (.bool (rdOf false t1068 5)) := by rw [ha]; exact putSel_on (e := (3, 21, .bool (rdOf false t1068 5))) 2 rfl rfl (hon 3 (by kernel_rfl)) rfl
              have e24 : a.tmps[24]? = some (.bool (rdOf false t1068 6)) := by rw [ha]; exact putSel_on (e := (6, 24, .bool (rdOf false t1068 6))) 4 rfl rfl (hon 6 (by kernel_rfl)) rfl
              replace ha := Aside0.mk ha
              have HO1071 := Aside0.mk Q_HO1071
              have HB := Aside0.mk Q_HB
              refine Kd.R_lit_step Kd.bool _ 4 ?hg (N := 25) ?hd (xs := ([rdOf false t1068 5, true, rdOf false t1068 6] : List Bool)) (inner := [.bool (rdOf false t1068 5), .bool true, .bool (rdOf false t1068 6)]) (ok := fun _ => True) (okp := fun _ => True) ?hr ?hp (fun _ hk => hk) trivial (Below.refl _ _) (Nat.le_refl _) (by simp) ?_; (case hd => rfl); (case hg => rfl); (case hr => first | (go_simp; done) | (go_simp; rfl)); (case hp => exact (Reps.one (show Kd.M Kd.bool _ _ _ (rdOf false t1068 5) [.bool (rdOf false t1068 5)] from rfl) (Reps.one (show Kd.M Kd.bool _ _ _ true [.bool true] from rfl) (Reps.one (show Kd.M Kd.bool _ _ _ (rdOf false t1068 6) [.bool (rdOf false t1068 6)] from rfl) (Reps.none _ _)))))
              intro v1078 w12 ho13 hb hg_ hnew_
              clear hg_ hnew_
              (first | rw [← Ny1077.out] at ho13 | (simp only [Int.reduceToNat] at ho13; rw [← Ny1077.out] at ho13))
              have n0_ := Aside0.mk (Kd.R_elder' (by (with_reducible repeat (first | apply Kd.R_alloc | apply Kd.R_drewN | apply Kd.R_drew)); exact HO1071.out) (Kd.R_base ho13) hb)
              have n1_ := Aside0.mk (Kd.R_lower (Kd.R_new' ho13 (Kd.R_lt (by (with_reducible repeat (first | apply Kd.R_alloc | apply Kd.R_drewN | apply Kd.R_drew)); exact HO1071.out))) (below_size (by repeat (first | (with_reducible first | exact HB.out | apply below_alloc | apply pw_below_drewN | apply below_drew1) | exact HB.out))))
              have n2_ := Aside0.mk (below_step (by repeat (first | (with_reducible first | exact HB.out | apply below_alloc | apply pw_below_drewN | apply below_drew1) | exact HB.out)) hb)
              have z_HO1074 := fun (h0_ : b 0 = true) => (show Kd.R Kd.string 9 w12 w.heap.size (fun _ => True) v1073 y1072 from by first | exact (Kd.R_below (by (with_reducible repeat (first | apply Kd.R_alloc | apply Kd.R_drewN | apply Kd.R_drew)); exact (Q_HO1074 h0_)) hb) | exact Kd.R_mono (Kd.R_below (by (with_reducible repeat (first | apply Kd.R_alloc | apply Kd.R_drewN | apply Kd.R_drew)); exact (Q_HO1074 h0_)) hb) (fun _ h_ => by first | trivial | exact h_ | exact h_.1))
              clear HO1071
              clear HB
              have HO1071 := n0_
              have HO1079 := n1_
              have HB := n2_
              clear n0_ n1_ n2_
              clear hb ho13
              refine hK.out _ _ ⟨v1073, v1078, v1081, m9_, (by rw [ha.out]; exact putSel_upk 5 hb_ rfl rfl rfl), (by (with_reducible repeat (first | apply Kd.R_alloc | apply Kd.R_drewN | apply Kd.R_drew)); first | first | exact Kd.R_mono HO1071.out (fun _ hk => hk.2) | exact Kd.R_mono HO1071.out (fun _ _ => trivial) | exact Kd.R_mono HO1071.out (fun _ _ => trivial)), (by repeat (first | (with_reducible first | exact HB.out | apply below_alloc | apply pw_below_drewN | apply below_drew1) | exact HB.out)), z_HO1074, fun _ => (by (with_reducible repeat (first | apply Kd.R_alloc | apply Kd.R_drewN | apply Kd.R_drew)); first | first | exact Kd.R_mono HO1079.out (fun _ hk => hk.2) | exact Kd.R_mono HO1079.out (fun _ _ => trivial) | exact Kd.R_mono HO1079.out (fun _ _ => trivial)), fun h0_ => absurd ((hoff 8 (by kernel_rfl)).symm.trans h0_) (by decide), fun h0_ => absurd ((hoff 9 (by kernel_rfl)).symm.trans h0_) (by decide)⟩
            refine steps_cons ?_ ?_
            · rintro b a w' ⟨v1073, v1078, v1081, m9_, ha, Q_HO1071, Q_HB, Q_HO1074, Q_HO1079, Q_HO1082, Q_X9_⟩ hb_ hon hoff
              refine ⟨_, rfl, fun K hK => ?_⟩
              have e18 : a.tmps[18]? = some (v1073) := by rw [ha]; exact putSel_on (e := (0, 18, v1073)) 0 rfl rfl (hon 0 (by kernel_rfl)) rfl
              have e25 : a.tmps[25]? = some (v1078) := by rw [ha]; exact putSel_on (e := (7, 25, v1078)) 5 rfl rfl (hon 7 (by kernel_rfl)) rfl
              replace ha := Aside0.mk ha
              have HO1071 := Aside0.mk Q_HO1071
              have HB := Aside0.mk Q_HB
              have HO1074 := Aside0.mk (Q_HO1074 (hon 0 (by kernel_rfl)))
              have HO1079 := Aside0.mk (Q_HO1079 (hon 7 (by kernel_rfl)))
              obtain ⟨Ao17, co17, eo17⟩ := Kd.R_slice HO1074.out
              (first | subst eo17 | (injection eo17 with f1_ f2_ f3_; have f4_ := f1_.symm; have f5_ := f3_.symm; clear f1_ f2_ f3_; subst f4_; subst f5_))
              obtain ⟨Ao18, co18, eo18⟩ := Kd.R_slice HO1079.out
              (first | subst eo18 | (injection eo18 with f1_ f2_ f3_; have f4_ := f1_.symm; have f5_ := f3_.symm; clear f1_ f2_ f3_; subst f4_; subst f5_))
              refine goes_ Try.func104 (by kernel_rfl) rfl #[.slice Ao17 y1072.length co17, .slice Ao18 y1077.length co18] (by rfl) rfl rfl (by first | (simp only [List.map_toArray, List.map_cons, List.map_nil, Act.eval, Array.getD_eq_getD_getElem?, Option.getD_some, e18, e25]; done) | (simp only [List.map_toArray, List.map_cons, List.map_nil, Act.eval, Array.getD_eq_getD_getElem?, Option.getD_some, e18, e25]; rfl)) ?_
              with_reducible refine (sealringref32_some.calls k _ _ y1072 _ _ y1077 t1080 _ ?side1 ?side2 ?side3 ?side4 A8.out).mono ?_
              (case side1 => repeat (first | exact (Kd.R_reads' HO1074.out).2.2 | (with_reducible refine Kd.C_alloc ?_ _) | (with_reducible refine Kd.C_drewN ?_ _) | (with_reducible refine Kd.C_drew ?_)))
              (case side2 => exact (Kd.R_reads' HO1074.out).2.1)
              (case side3 => repeat (first | exact (Kd.R_reads' HO1079.out).2.2 | (with_reducible refine Kd.C_alloc ?_ _) | (with_reducible refine Kd.C_drewN ?_ _) | (with_reducible refine Kd.C_drew ?_)))
              (case side4 => exact (Kd.R_reads' HO1079.out).2.1)
              rintro e w19 ⟨v1081, rfl, ho0, hb⟩
              refine ⟨_, rfl, ?_⟩
              have n0_ := Aside0.mk (Kd.R_below (by (with_reducible repeat (first | apply Kd.R_alloc | apply Kd.R_drewN | apply Kd.R_drew)); exact HO1071.out) hb)
              have n1_ := Aside0.mk (Kd.R_elder' (by (with_reducible repeat (first | apply Kd.R_alloc | apply Kd.R_drewN | apply Kd.R_drew)); exact HO1074.out) (Kd.R_base ho0) hb)
              have n2_ := Aside0.mk (Kd.R_below (by (with_reducible repeat (first | apply Kd.R_alloc | apply Kd.R_drewN | apply Kd.R_drew)); exact HO1079.out) hb)
              have n3_ := Aside0.mk (Kd.R_lower (Kd.R_new' ho0 (Kd.R_lt (by (with_reducible repeat (first | apply Kd.R_alloc | apply Kd.R_drewN | apply Kd.R_drew)); exact HO1074.out))) (below_size (by repeat (first | (with_reducible first | exact HB.out | apply below_alloc | apply pw_below_drewN | apply below_drew1) | exact HB.out))))
              have n4_ := Aside0.mk (below_step (by repeat (first | (with_reducible first | exact HB.out | apply below_alloc | apply pw_below_drewN | apply below_drew1) | exact HB.out)) hb)
              clear HO1071
              clear HO1074
              clear HO1079
              clear HB
              have HO1071 := n0_
              have HO1074 := n1_
              have HO1079 := n2_
              have HO1082 := n3_
              have HB := n4_
              clear n0_ n1_ n2_ n3_ n4_
              (try clear hb)
              (try clear hb2)
              (try clear hk)
              (try clear hi)
              (try clear ho0)
              refine hK.out _ _ ⟨.slice Ao17 y1072.length co17, .slice Ao18 y1077.length co18, v1081, m9_, (by rw [ha.out]; exact putSel_upk 6 hb_ rfl rfl rfl), (by (with_reducible repeat (first | apply Kd.R_alloc | apply Kd.R_drewN | apply Kd.R_drew)); exact HO1071.out), (by repeat (first | (with_reducible first | exact HB.out | apply below_alloc | apply pw_below_drewN | apply below_drew1) | exact HB.out)), fun _ => (by (with_reducible repeat (first | apply Kd.R_alloc | apply Kd.R_drewN | apply Kd.R_drew)); first | first | exact Kd.R_mono HO1074.out (fun _ hk => hk.2) | exact Kd.R_mono HO1074.out (fun _ _ => trivial) | exact Kd.R_mono HO1074.out (fun _ _ => trivial)), fun _ => (by (with_reducible repeat (first | apply Kd.R_alloc | apply Kd.R_drewN | apply Kd.R_drew)); exact HO1079.out), fun _ => (by (with_reducible repeat (first | apply Kd.R_alloc | apply Kd.R_drewN | apply Kd.R_drew)); first | first | exact Kd.R_mono HO1082.out (fun _ hk => hk.2) | exact Kd.R_mono HO1082.out (fun _ _ => trivial) | exact Kd.R_mono HO1082.out (fun _ _ => trivial)), fun h0_ => absurd ((hoff 9 (by kernel_rfl)).symm.trans h0_) (by decide)⟩
            refine steps_cons ?_ ?_
            · rintro b a w' ⟨v1073, v1078, v1081, m9_, ha, Q_HO1071, Q_HB, Q_HO1074, Q_HO1079, Q_HO1082, Q_X9_⟩ hb_ hon hoff
              refine ⟨_, rfl, fun K hK => ?_⟩
              have e26 : a.tmps[26]? = some (v1081) := by rw [ha]; exact putSel_on (e := (8, 26, v1081)) 6 rfl rfl (hon 8 (by kernel_rfl)) rfl
              replace ha := Aside0.mk ha
              have HO1071 := Aside0.mk Q_HO1071
              have HB := Aside0.mk Q_HB
              have HO1074 := Aside0.mk (Q_HO1074 (hon 0 (by kernel_rfl)))
              have HO1079 := Aside0.mk (Q_HO1079 (hon 7 (by kernel_rfl)))
              have HO1082 := Aside0.mk (Q_HO1082 (hon 8 (by kernel_rfl)))
              refine value_ (w1 := w') (v := v1081) (by rfl) rfl ?_ ?_
              · go_simp
                (try simp only [i64_w])
                try rfl
              refine hK.out _ _ ⟨v1073, v1078, v1081, (v1081), (by rw [ha.out]; exact putSel_upk 7 hb_ rfl rfl rfl), Q_HO1071, Q_HB, Q_HO1074, Q_HO1079, Q_HO1082, fun _ => rfl⟩
            refine steps_cons ?_ ?_
            · rintro b a w' ⟨v1073, v1078, v1081, m9_, ha, Q_HO1071, Q_HB, Q_HO1074, Q_HO1079, Q_HO1082, Q_X9_⟩ hb_ hon hoff
              refine ⟨_, rfl, fun K hK => ?_⟩
              replace ha := Aside0.mk ha
              have HO1071 := Aside0.mk Q_HO1071
              have HB := Aside0.mk Q_HB
              have HO1074 := Aside0.mk (Q_HO1074 (hon 0 (by kernel_rfl)))
              have HO1079 := Aside0.mk (Q_HO1079 (hon 7 (by kernel_rfl)))
              have HO1082 := Aside0.mk (Q_HO1082 (hon 8 (by kernel_rfl)))
              refine value_ (w1 := w') (v := .bool false) (by rfl) rfl ?_ ?_
              · go_simp
                (try simp only [i64_w])
                try rfl
              refine hK.out _ _ ⟨v1073, v1078, v1081, m9_, (by rw [ha.out]; exact putSel_upk 8 hb_ rfl rfl rfl), Q_HO1071, Q_HB, Q_HO1074, Q_HO1079, Q_HO1082, Q_X9_⟩
            exact steps_nil
          rintro b a w19 hall ⟨v1073, v1078, v1081, m9_, ha, Q_HO1071, Q_HB, Q_HO1074, Q_HO1079, Q_HO1082, Q_X9_⟩
          clear HB HO1071
          have hb0_ := hall 0 (by kernel_rfl)
          have hb2_ := hall 2 (by kernel_rfl)
          have hb3_ := hall 3 (by kernel_rfl)
          have hb5_ := hall 5 (by kernel_rfl)
          have hb6_ := hall 6 (by kernel_rfl)
          have hb7_ := hall 7 (by kernel_rfl)
          have hb8_ := hall 8 (by kernel_rfl)
          have hb9_ := hall 9 (by kernel_rfl)
          have hb10_ := hall 10 (by kernel_rfl)
          subst ha
          obtain rfl := Q_X9_ hb9_
          simp only [putSel, hb0_, hb2_, hb3_, hb5_, hb6_, hb7_, hb8_, hb9_, hb10_, if_true, Act.put, List.setIfInBounds_toArray, List.set_cons_zero, List.set_cons_succ]
          have HO1071 := Aside0.mk Q_HO1071
          clear Q_HO1071
          have HB := Aside0.mk Q_HB
          clear Q_HB
          have HO1074 := Aside0.mk (Q_HO1074 hb0_)
          clear Q_HO1074
          have HO1079 := Aside0.mk (Q_HO1079 hb7_)
          clear Q_HO1079
          have HO1082 := Aside0.mk (Q_HO1082 hb8_)
          clear Q_HO1082
          clear hall hb0_ hb2_ hb3_ hb5_ hb6_ hb7_ hb8_ hb9_ hb10_
          try go_wp2
          go_ret2
          exact ⟨_, by first | rfl | (simp [errW_none, errW_some] <;> rfl) | (simp [*, errW_none, errW_some] <;> rfl), by (with_reducible repeat (first | apply Kd.R_alloc | apply Kd.R_drewN | apply Kd.R_drew)); exact Kd.R_mono HO1082.out (fun _ hk => trivial), by repeat (first | (with_reducible first | exact HB.out | apply below_alloc | apply pw_below_drewN | apply below_drew1) | exact HB.out)⟩
        · rw [if_neg c7] at H
          exact absurd H (by simp)
      · rw [if_neg c6] at H
        exact absurd H (by simp)
    · rw [if_neg c5] at H
      have c5b0 : (a1.toList == ([109, 46, 114, 111, 111, 109, 46, 109, 101, 109, 98, 101, 114] : List UInt8)) = false := beq_eq_false_iff_ne.mpr c5
      have c5b1 : (a1.toList != ([109, 46, 114, 111, 111, 109, 46, 109, 101, 109, 98, 101, 114] : List UInt8)) = true := bne_iff_ne.mpr c5
      by_cases c20 : a1.toList = ([109, 46, 114, 111, 111, 109, 46, 99, 114, 101, 97, 116, 101] : List UInt8)
      · rw [if_pos c20] at H
        have c20b0 : (a1.toList == ([109, 46, 114, 111, 111, 109, 46, 99, 114, 101, 97, 116, 101] : List UInt8)) = true := beq_iff_eq.mpr c20
        have c20b1 : (a1.toList != ([109, 46, 114, 111, 111, 109, 46, 99, 114, 101, 97, 116, 101] : List UInt8)) = false := bne_eq_false_iff_eq.mpr c20
        clear c20
        by_cases c21 : 6 < (t1068.length : Int)
        · rw [if_pos c21] at H
          have c21b0 : decide (6 < (t1068.length : Int)) = true := decide_eq_true c21
          have c21b1 : decide (6 < t1068.length) = true := decide_eq_true (by omega)
          clear c21
          obtain ⟨bq22, hbq22⟩ : ∃ b_ : Bool, b_ = (rdOf false t1068 6) := ⟨_, rfl⟩
          replace H : (if bq22 = true then (some (([] : List ByteArray), true)) else (some ((([(⟨#[99, 114, 101, 97, 116, 111, 114]⟩ : ByteArray)] : List ByteArray)), false))) = some (r1, r2) := by rw [← hbq22] at H; exact H
          have Nbq22 := Aside0.mk hbq22
          clear hbq22
          by_cases c23 : bq22 = true
          · subst c23
            have H1 : (some (([] : List ByteArray), true)) = some (r1, r2) := by rw [if_pos rfl] at H; exact H
            clear H
            have H := H1
            clear H1
            simp only [Option.some.injEq, Prod.mk.injEq] at H
            obtain ⟨rfl, rfl⟩ := H
            go_enter Try.func56, Try.ntmps56
            go_wp2_with (first | ((with_reducible refine gate_callee (f := 102) rfl ?_); refine goesL_ (some 10) rfl rfl Try.func102 (by kernel_rfl) rfl #[.int .i64 a0] rfl (by (try simp only [List.map_toArray, List.map_cons, List.map_nil]); first | done | rfl | (simp only [List.length_drop, List.length_take]; rfl)) ?_; (with_reducible refine (sealringref26_Of.calls a0 t1068 true _ A3.out).mono ?_); rintro e w24 ⟨v1070, rfl, ho0, hb⟩; refine ⟨_, rfl, ?_⟩; have n0_ := Aside0.mk (Kd.R_lower ho0 (below_size (by repeat (first | (with_reducible first | exact HB.out | apply below_alloc | apply pw_below_drewN | apply below_drew1) | exact HB.out)))); have n1_ := Aside0.mk (below_step (by repeat (first | (with_reducible first | exact HB.out | apply below_alloc | apply pw_below_drewN | apply below_drew1) | exact HB.out)) hb); clear HB; have HO1071 := n0_; have HB := n1_; clear n0_ n1_; (try clear hb); (try clear hb2); (try clear hk); (try clear hi); (try clear ho0); obtain ⟨Ao25, co25, eo25⟩ := Kd.R_slice HO1071.out; subst eo25; have p1083 : 0 ≤ (6 : Int) := (by omega); have q1083 : 6 < (t1068.length : Int) := of_decide_eq_true (by first | (with_reducible assumption) | assumption); obtain ⟨ad1083, e1083, hx1083_0⟩ := Kd.at_bool (Kd.R_reads' HO1071.out).2.2 6 p1083 q1083; (try rw [← Nbq22.out] at hx1083_0); cases e1083; (try simp only [show (6 : Int).toNat = 6 from rfl, Nat.reduceMul, Nat.reduceEqDiff, Go.Addr.add, ↓reduceIte] at hx1083_0); have qi1083 : (6 < t1068.length) = True := eq_true (by omega); (try rw [show ((6 : Int)).toNat = 6 from rfl] at hx1083_0); replace p1083 := eq_true p1083; replace q1083 := eq_true q1083))
            go_ret2
            exact ⟨_, by first | rfl | (simp [errW_none, errW_some] <;> rfl) | (simp [*, errW_none, errW_some] <;> rfl), by first | exact Kd.R_nil _ _ _ _ _ | exact Kd.N_nil _ _ _ _ _ | exact Kd.V_nil _ _ _ _ _ | exact Kd.Q_nil _ _ _ _ _ | exact Kd.S_nil _ _ _ _ _, by repeat (first | (with_reducible first | exact HB.out | apply below_alloc | apply pw_below_drewN | apply below_drew1) | exact HB.out)⟩
          · replace c23 := Bool.eq_false_iff.mpr c23
            subst c23
            have H1 : (some ((([(⟨#[99, 114, 101, 97, 116, 111, 114]⟩ : ByteArray)] : List ByteArray)), false)) = some (r1, r2) := by rw [if_neg (show ¬ (false = true) by decide)] at H; exact H
            clear H
            have H := H1
            clear H1
            obtain ⟨y1084, hy1084⟩ : ∃ y_ : List ByteArray, y_ = (([(⟨#[99, 114, 101, 97, 116, 111, 114]⟩ : ByteArray)] : List ByteArray)) := ⟨_, rfl⟩
            replace H : (some (y1084, false)) = some (r1, r2) := by first | (rw [hy1084]; with_reducible exact H) | (have H2_ := (Option.bind_some _ _).symm.trans H; rw [hy1084]; with_reducible exact H2_) | (have H2_ := (Option.bind_some _ _).symm.trans H; with_reducible exact H2_) | with_reducible exact H | (rw [hy1084]; exact H) | exact H
            have Ny1084 := Aside0.mk hy1084
            clear hy1084
            simp only [Option.some.injEq, Prod.mk.injEq] at H
            obtain ⟨rfl, rfl⟩ := H
            go_enter Try.func56, Try.ntmps56
            go_wp2_with (first | ((with_reducible refine gate_callee (f := 102) rfl ?_); refine goesL_ (some 10) rfl rfl Try.func102 (by kernel_rfl) rfl #[.int .i64 a0] rfl (by (try simp only [List.map_toArray, List.map_cons, List.map_nil]); first | done | rfl | (simp only [List.length_drop, List.length_take]; rfl)) ?_; (with_reducible refine (sealringref26_Of.calls a0 t1068 true _ A3.out).mono ?_); rintro e w26 ⟨v1070, rfl, ho0, hb⟩; refine ⟨_, rfl, ?_⟩; have n0_ := Aside0.mk (Kd.R_lower ho0 (below_size (by repeat (first | (with_reducible first | exact HB.out | apply below_alloc | apply pw_below_drewN | apply below_drew1) | exact HB.out)))); have n1_ := Aside0.mk (below_step (by repeat (first | (with_reducible first | exact HB.out | apply below_alloc | apply pw_below_drewN | apply below_drew1) | exact HB.out)) hb); clear HB; have HO1071 := n0_; have HB := n1_; clear n0_ n1_; (try clear hb); (try clear hb2); (try clear hk); (try clear hi); (try clear ho0); obtain ⟨Ao27, co27, eo27⟩ := Kd.R_slice HO1071.out; subst eo27; have p1083 : 0 ≤ (6 : Int) := (by omega); have q1083 : 6 < (t1068.length : Int) := of_decide_eq_true (by first | (with_reducible assumption) | assumption); obtain ⟨ad1083, e1083, hx1083_0⟩ := Kd.at_bool (Kd.R_reads' HO1071.out).2.2 6 p1083 q1083; (try rw [← Nbq22.out] at hx1083_0); cases e1083; (try simp only [show (6 : Int).toNat = 6 from rfl, Nat.reduceMul, Nat.reduceEqDiff, Go.Addr.add, ↓reduceIte] at hx1083_0); have qi1083 : (6 < t1068.length) = True := eq_true (by omega); (try rw [show ((6 : Int)).toNat = 6 from rfl] at hx1083_0); replace p1083 := eq_true p1083; replace q1083 := eq_true q1083) | ((with_reducible refine gate_dst (N := 32) rfl ?_); refine Kd.R_lit Kd.string _ 9 ?hg (N := 32) ?hd (xs := ([(⟨#[99, 114, 101, 97, 116, 111, 114]⟩ : ByteArray)] : List ByteArray)) (inner := [.string (⟨#[99, 114, 101, 97, 116, 111, 114]⟩ : ByteArray)]) (ok := fun _ => True) (okp := fun _ => True) ?hr ?hp (fun _ hk => hk) trivial (Below.refl _ _) (Nat.le_refl _) (by simp) ?_; (case hd => rfl); (case hg => rfl); (case hr => first | (go_simp; done) | (go_simp; rfl)); (case hp => exact (Reps.one (show Kd.M Kd.string _ _ _ (⟨#[99, 114, 101, 97, 116, 111, 114]⟩ : ByteArray) [.string (⟨#[99, 114, 101, 97, 116, 111, 114]⟩ : ByteArray)] from rfl) (Reps.none _ _))); intro v1085 w28 ho29 hb hg_ hnew_; clear hg_ hnew_; (first | rw [← Ny1084.out] at ho29 | (simp only [Int.reduceToNat] at ho29; rw [← Ny1084.out] at ho29)); have n0_ := Aside0.mk (Kd.R_below (by (with_reducible repeat (first | apply Kd.R_alloc | apply Kd.R_drewN | apply Kd.R_drew)); exact HO1071.out) hb); have n1_ := Aside0.mk (Kd.R_lower ho29 (below_size (by repeat (first | (with_reducible first | exact HB.out | apply below_alloc | apply pw_below_drewN | apply below_drew1) | exact HB.out)))); have n2_ := Aside0.mk (below_step (by repeat (first | (with_reducible first | exact HB.out | apply below_alloc | apply pw_below_drewN | apply below_drew1) | exact HB.out)) hb); clear HO1071; clear HB; have HO1071 := n0_; have HO1086 := n1_; have HB := n2_; clear n0_ n1_ n2_; clear hb ho29))
            go_ret2
            exact ⟨_, by first | rfl | (simp [errW_none, errW_some] <;> rfl) | (simp [*, errW_none, errW_some] <;> rfl), by (with_reducible repeat (first | apply Kd.R_alloc | apply Kd.R_drewN | apply Kd.R_drew)); exact HO1086.out, by repeat (first | (with_reducible first | exact HB.out | apply below_alloc | apply pw_below_drewN | apply below_drew1) | exact HB.out)⟩
        · rw [if_neg c21] at H
          exact absurd H (by simp)
      · rw [if_neg c20] at H
        have c20b0 : (a1.toList == ([109, 46, 114, 111, 111, 109, 46, 99, 114, 101, 97, 116, 101] : List UInt8)) = false := beq_eq_false_iff_ne.mpr c20
        have c20b1 : (a1.toList != ([109, 46, 114, 111, 111, 109, 46, 99, 114, 101, 97, 116, 101] : List UInt8)) = true := bne_iff_ne.mpr c20
        by_cases c30 : a1.toList = ([109, 46, 114, 111, 111, 109, 46, 106, 111, 105, 110, 95, 114, 117, 108, 101, 115] : List UInt8)
        · rw [if_pos c30] at H
          have c30b0 : (a1.toList == ([109, 46, 114, 111, 111, 109, 46, 106, 111, 105, 110, 95, 114, 117, 108, 101, 115] : List UInt8)) = true := beq_iff_eq.mpr c30
          have c30b1 : (a1.toList != ([109, 46, 114, 111, 111, 109, 46, 106, 111, 105, 110, 95, 114, 117, 108, 101, 115] : List UInt8)) = false := bne_eq_false_iff_eq.mpr c30
          clear c30
          obtain ⟨y1087, hy1087⟩ : ∃ y_ : List ByteArray, y_ = (([(⟨#[97, 108, 108, 111, 119]⟩ : ByteArray), (⟨#[106, 111, 105, 110, 95, 114, 117, 108, 101]⟩ : ByteArray)] : List ByteArray)) := ⟨_, rfl⟩
          replace H : (if 4 < (t1068.length : Int) then ((sealringref32_some.f k y1087 (([rdOf false t1068 4, true] : List Bool))).bind fun t1094 => (some (t1094, false))) else (none)) = some (r1, r2) := by first | (rw [hy1087]; with_reducible exact H) | (have H2_ := (Option.bind_some _ _).symm.trans H; rw [hy1087]; with_reducible exact H2_) | (have H2_ := (Option.bind_some _ _).symm.trans H; with_reducible exact H2_) | with_reducible exact H | (rw [hy1087]; exact H) | exact H
          have Ny1087 := Aside0.mk hy1087
          clear hy1087
          by_cases c31 : 4 < (t1068.length : Int)
          · rw [if_pos c31] at H
            have c31b0 : decide (4 < (t1068.length : Int)) = true := decide_eq_true c31
            have c31b1 : decide (4 < t1068.length) = true := decide_eq_true (by omega)
            clear c31
            obtain ⟨y1091, hy1091⟩ : ∃ y_ : List Bool, y_ = (([rdOf false t1068 4, true] : List Bool)) := ⟨_, rfl⟩
            replace H : ((sealringref32_some.f k y1087 y1091).bind fun t1094 => (some (t1094, false))) = some (r1, r2) := by first | (rw [hy1091]; with_reducible exact H) | (have H2_ := (Option.bind_some _ _).symm.trans H; rw [hy1091]; with_reducible exact H2_) | (have H2_ := (Option.bind_some _ _).symm.trans H; with_reducible exact H2_) | with_reducible exact H | (rw [hy1091]; exact H) | exact H
            have Ny1091 := Aside0.mk hy1091
            clear hy1091
            replace H := Option.bind_eq_some_iff.mp H
            obtain ⟨t1094, A320, H⟩ := H
            replace H : (some (t1094, false)) = some (r1, r2) := H
            have A32 := Aside0.mk A320
            clear A320
            simp only [Option.some.injEq, Prod.mk.injEq] at H
            obtain ⟨rfl, rfl⟩ := H
            go_enter Try.func56, Try.ntmps56
            go_wp2_with (first | ((with_reducible refine gate_callee (f := 102) rfl ?_); refine goesL_ (some 10) rfl rfl Try.func102 (by kernel_rfl) rfl #[.int .i64 a0] rfl (by (try simp only [List.map_toArray, List.map_cons, List.map_nil]); first | done | rfl | (simp only [List.length_drop, List.length_take]; rfl)) ?_; (with_reducible refine (sealringref26_Of.calls a0 t1068 true _ A3.out).mono ?_); rintro e w33 ⟨v1070, rfl, ho0, hb⟩; refine ⟨_, rfl, ?_⟩; have n0_ := Aside0.mk (Kd.R_lower ho0 (below_size (by repeat (first | (with_reducible first | exact HB.out | apply below_alloc | apply pw_below_drewN | apply below_drew1) | exact HB.out)))); have n1_ := Aside0.mk (below_step (by repeat (first | (with_reducible first | exact HB.out | apply below_alloc | apply pw_below_drewN | apply below_drew1) | exact HB.out)) hb); clear HB; have HO1071 := n0_; have HB := n1_; clear n0_ n1_; (try clear hb); (try clear hb2); (try clear hk); (try clear hi); (try clear ho0)) | ((with_reducible refine gate_dst (N := 35) rfl ?_); refine Kd.R_lit Kd.string _ 9 ?hg (N := 35) ?hd (xs := ([(⟨#[97, 108, 108, 111, 119]⟩ : ByteArray), (⟨#[106, 111, 105, 110, 95, 114, 117, 108, 101]⟩ : ByteArray)] : List ByteArray)) (inner := [.string (⟨#[97, 108, 108, 111, 119]⟩ : ByteArray), .string (⟨#[106, 111, 105, 110, 95, 114, 117, 108, 101]⟩ : ByteArray)]) (ok := fun _ => True) (okp := fun _ => True) ?hr ?hp (fun _ hk => hk) trivial (Below.refl _ _) (Nat.le_refl _) (by simp) ?_; (case hd => rfl); (case hg => rfl); (case hr => first | (go_simp; done) | (go_simp; rfl)); (case hp => exact (Reps.one (show Kd.M Kd.string _ _ _ (⟨#[97, 108, 108, 111, 119]⟩ : ByteArray) [.string (⟨#[97, 108, 108, 111, 119]⟩ : ByteArray)] from rfl) (Reps.one (show Kd.M Kd.string _ _ _ (⟨#[106, 111, 105, 110, 95, 114, 117, 108, 101]⟩ : ByteArray) [.string (⟨#[106, 111, 105, 110, 95, 114, 117, 108, 101]⟩ : ByteArray)] from rfl) (Reps.none _ _)))); intro v1088 w34 ho35 hb hg_ hnew_; clear hg_ hnew_; (first | rw [← Ny1087.out] at ho35 | (simp only [Int.reduceToNat] at ho35; rw [← Ny1087.out] at ho35)); have n0_ := Aside0.mk (Kd.R_below (by (with_reducible repeat (first | apply Kd.R_alloc | apply Kd.R_drewN | apply Kd.R_drew)); exact HO1071.out) hb); have n1_ := Aside0.mk (Kd.R_lower ho35 (below_size (by repeat (first | (with_reducible first | exact HB.out | apply below_alloc | apply pw_below_drewN | apply below_drew1) | exact HB.out)))); have n2_ := Aside0.mk (below_step (by repeat (first | (with_reducible first | exact HB.out | apply below_alloc | apply pw_below_drewN | apply below_drew1) | exact HB.out)) hb); clear HO1071; clear HB; have HO1071 := n0_; have HO1089 := n1_; have HB := n2_; clear n0_ n1_ n2_; clear hb ho35; obtain ⟨Ao36, co36, eo36⟩ := Kd.R_slice HO1071.out; subst eo36; have p1090 : 0 ≤ (4 : Int) := (by omega); have q1090 : 4 < (t1068.length : Int) := of_decide_eq_true (by first | (with_reducible assumption) | assumption); obtain ⟨ad1090, e1090, hx1090_0⟩ := Kd.at_bool (Kd.R_reads' HO1071.out).2.2 4 p1090 q1090; cases e1090; (try simp only [show (4 : Int).toNat = 4 from rfl, Nat.reduceMul, Nat.reduceEqDiff, Go.Addr.add, ↓reduceIte] at hx1090_0); have qi1090 : (4 < t1068.length) = True := eq_true (by omega); (try rw [show ((4 : Int)).toNat = 4 from rfl] at hx1090_0); replace p1090 := eq_true p1090; replace q1090 := eq_true q1090) | ((with_reducible refine gate_dst (N := 39) rfl ?_); refine Kd.R_lit Kd.bool _ 4 ?hg (N := 39) ?hd (xs := ([rdOf false t1068 4, true] : List Bool)) (inner := [.bool (rdOf false t1068 4), .bool true]) (ok := fun _ => True) (okp := fun _ => True) ?hr ?hp (fun _ hk => hk) trivial (Below.refl _ _) (Nat.le_refl _) (by simp) ?_; (case hd => rfl); (case hg => rfl); (case hr => first | (go_simp; done) | (go_simp; rfl)); (case hp => exact (Reps.one (show Kd.M Kd.bool _ _ _ (rdOf false t1068 4) [.bool (rdOf false t1068 4)] from rfl) (Reps.one (show Kd.M Kd.bool _ _ _ true [.bool true] from rfl) (Reps.none _ _)))); intro v1092 w37 ho38 hb hg_ hnew_; clear hg_ hnew_; (first | rw [← Ny1091.out] at ho38 | (simp only [Int.reduceToNat] at ho38; rw [← Ny1091.out] at ho38)); have n0_ := Aside0.mk (Kd.R_elder' (by (with_reducible repeat (first | apply Kd.R_alloc | apply Kd.R_drewN | apply Kd.R_drew)); exact HO1071.out) (Kd.R_base ho38) hb); have n1_ := Aside0.mk (Kd.R_below (by (with_reducible repeat (first | apply Kd.R_alloc | apply Kd.R_drewN | apply Kd.R_drew)); exact HO1089.out) hb); have n2_ := Aside0.mk (Kd.R_lower (Kd.R_new' ho38 (Kd.R_lt (by (with_reducible repeat (first | apply Kd.R_alloc | apply Kd.R_drewN | apply Kd.R_drew)); exact HO1071.out))) (below_size (by repeat (first | (with_reducible first | exact HB.out | apply below_alloc | apply pw_below_drewN | apply below_drew1) | exact HB.out)))); have n3_ := Aside0.mk (below_step (by repeat (first | (with_reducible first | exact HB.out | apply below_alloc | apply pw_below_drewN | apply below_drew1) | exact HB.out)) hb); clear HO1071; clear HO1089; clear HB; have HO1071 := n0_; have HO1089 := n1_; have HO1093 := n2_; have HB := n3_; clear n0_ n1_ n2_ n3_; clear hb ho38; obtain ⟨Ao39, co39, eo39⟩ := Kd.R_slice HO1089.out; subst eo39; obtain ⟨Ao40, co40, eo40⟩ := Kd.R_slice HO1093.out; subst eo40) | ((with_reducible refine gate_callee (f := 104) rfl ?_); refine goesL_ (some 40) rfl rfl Try.func104 (by kernel_rfl) rfl #[.slice Ao39 y1087.length co39, .slice Ao40 y1091.length co40] rfl (by (try simp only [List.map_toArray, List.map_cons, List.map_nil]); first | done | rfl | (simp only [List.length_drop, List.length_take]; rfl)) ?_; (with_reducible refine (sealringref32_some.calls k _ _ y1087 _ _ y1091 t1094 _ ?side1 ?side2 ?side3 ?side4 A32.out).mono ?_); (case side1 => repeat (first | exact (Kd.R_reads' HO1089.out).2.2 | (with_reducible refine Kd.C_alloc ?_ _) | (with_reducible refine Kd.C_drewN ?_ _) | (with_reducible refine Kd.C_drew ?_))); (case side2 => exact (Kd.R_reads' HO1089.out).2.1); (case side3 => repeat (first | exact (Kd.R_reads' HO1093.out).2.2 | (with_reducible refine Kd.C_alloc ?_ _) | (with_reducible refine Kd.C_drewN ?_ _) | (with_reducible refine Kd.C_drew ?_))); (case side4 => exact (Kd.R_reads' HO1093.out).2.1); rintro e w41 ⟨v1095, rfl, ho0, hb⟩; refine ⟨_, rfl, ?_⟩; have n0_ := Aside0.mk (Kd.R_below (by (with_reducible repeat (first | apply Kd.R_alloc | apply Kd.R_drewN | apply Kd.R_drew)); exact HO1071.out) hb); have n1_ := Aside0.mk (Kd.R_elder' (by (with_reducible repeat (first | apply Kd.R_alloc | apply Kd.R_drewN | apply Kd.R_drew)); exact HO1089.out) (Kd.R_base ho0) hb); have n2_ := Aside0.mk (Kd.R_below (by (with_reducible repeat (first | apply Kd.R_alloc | apply Kd.R_drewN | apply Kd.R_drew)); exact HO1093.out) hb); have n3_ := Aside0.mk (Kd.R_lower (Kd.R_new' ho0 (Kd.R_lt (by (with_reducible repeat (first | apply Kd.R_alloc | apply Kd.R_drewN | apply Kd.R_drew)); exact HO1089.out))) (below_size (by repeat (first | (with_reducible first | exact HB.out | apply below_alloc | apply pw_below_drewN | apply below_drew1) | exact HB.out)))); have n4_ := Aside0.mk (below_step (by repeat (first | (with_reducible first | exact HB.out | apply below_alloc | apply pw_below_drewN | apply below_drew1) | exact HB.out)) hb); clear HO1071; clear HO1089; clear HO1093; clear HB; have HO1071 := n0_; have HO1089 := n1_; have HO1093 := n2_; have HO1096 := n3_; have HB := n4_; clear n0_ n1_ n2_ n3_ n4_; (try clear hb); (try clear hb2); (try clear hk); (try clear hi); (try clear ho0)))
            go_ret2
            exact ⟨_, by first | rfl | (simp [errW_none, errW_some] <;> rfl) | (simp [*, errW_none, errW_some] <;> rfl), by (with_reducible repeat (first | apply Kd.R_alloc | apply Kd.R_drewN | apply Kd.R_drew)); exact Kd.R_mono HO1096.out (fun _ hk => trivial), by repeat (first | (with_reducible first | exact HB.out | apply below_alloc | apply pw_below_drewN | apply below_drew1) | exact HB.out)⟩
          · rw [if_neg c31] at H
            exact absurd H (by simp)
        · rw [if_neg c30] at H
          have c30b0 : (a1.toList == ([109, 46, 114, 111, 111, 109, 46, 106, 111, 105, 110, 95, 114, 117, 108, 101, 115] : List UInt8)) = false := beq_eq_false_iff_ne.mpr c30
          have c30b1 : (a1.toList != ([109, 46, 114, 111, 111, 109, 46, 106, 111, 105, 110, 95, 114, 117, 108, 101, 115] : List UInt8)) = true := bne_iff_ne.mpr c30
          by_cases c42 : a1.toList = ([109, 46, 114, 111, 111, 109, 46, 112, 111, 119, 101, 114, 95, 108, 101, 118, 101, 108, 115] : List UInt8)
          · rw [if_pos c42] at H
            have c42b0 : (a1.toList == ([109, 46, 114, 111, 111, 109, 46, 112, 111, 119, 101, 114, 95, 108, 101, 118, 101, 108, 115] : List UInt8)) = true := beq_iff_eq.mpr c42
            have c42b1 : (a1.toList != ([109, 46, 114, 111, 111, 109, 46, 112, 111, 119, 101, 114, 95, 108, 101, 118, 101, 108, 115] : List UInt8)) = false := bne_eq_false_iff_eq.mpr c42
            clear c42
            obtain ⟨y1097, hy1097⟩ : ∃ y_ : List ByteArray, y_ = (([(⟨#[98, 97, 110]⟩ : ByteArray), (⟨#[101, 118, 101, 110, 116, 115]⟩ : ByteArray), (⟨#[101, 118, 101, 110, 116, 115, 95, 100, 101, 102, 97, 117, 108, 116]⟩ : ByteArray), (⟨#[105, 110, 118, 105, 116, 101]⟩ : ByteArray), (⟨#[107, 105, 99, 107]⟩ : ByteArray), (⟨#[114, 101, 100, 97, 99, 116]⟩ : ByteArray), (⟨#[115, 116, 97, 116, 101, 95, 100, 101, 102, 97, 117, 108, 116]⟩ : ByteArray), (⟨#[117, 115, 101, 114, 115]⟩ : ByteArray), (⟨#[117, 115, 101, 114, 115, 95, 100, 101, 102, 97, 117, 108, 116]⟩ : ByteArray)] : List ByteArray)) := ⟨_, rfl⟩
            replace H : (if 6 < (t1068.length : Int) then ((sealringref32_some.f k y1097 (([true, true, true, rdOf false t1068 6, true, true, true, true, true] : List Bool))).bind fun t1104 => (some (t1104, false))) else (none)) = some (r1, r2) := by first | (rw [hy1097]; with_reducible exact H) | (have H2_ := (Option.bind_some _ _).symm.trans H; rw [hy1097]; with_reducible exact H2_) | (have H2_ := (Option.bind_some _ _).symm.trans H; with_reducible exact H2_) | with_reducible exact H | (rw [hy1097]; exact H) | exact H
            have Ny1097 := Aside0.mk hy1097
            clear hy1097
            by_cases c43 : 6 < (t1068.length : Int)
            · rw [if_pos c43] at H
              have c43b0 : decide (6 < (t1068.length : Int)) = true := decide_eq_true c43
              have c43b1 : decide (6 < t1068.length) = true := decide_eq_true (by omega)
              clear c43
              obtain ⟨y1101, hy1101⟩ : ∃ y_ : List Bool, y_ = (([true, true, true, rdOf false t1068 6, true, true, true, true, true] : List Bool)) := ⟨_, rfl⟩
              replace H : ((sealringref32_some.f k y1097 y1101).bind fun t1104 => (some (t1104, false))) = some (r1, r2) := by first | (rw [hy1101]; with_reducible exact H) | (have H2_ := (Option.bind_some _ _).symm.trans H; rw [hy1101]; with_reducible exact H2_) | (have H2_ := (Option.bind_some _ _).symm.trans H; with_reducible exact H2_) | with_reducible exact H | (rw [hy1101]; exact H) | exact H
              have Ny1101 := Aside0.mk hy1101
              clear hy1101
              replace H := Option.bind_eq_some_iff.mp H
              obtain ⟨t1104, A440, H⟩ := H
              replace H : (some (t1104, false)) = some (r1, r2) := H
              have A44 := Aside0.mk A440
              clear A440
              simp only [Option.some.injEq, Prod.mk.injEq] at H
              obtain ⟨rfl, rfl⟩ := H
              go_enter Try.func56, Try.ntmps56
              go_wp2_with (first | ((with_reducible refine gate_callee (f := 102) rfl ?_); refine goesL_ (some 10) rfl rfl Try.func102 (by kernel_rfl) rfl #[.int .i64 a0] rfl (by (try simp only [List.map_toArray, List.map_cons, List.map_nil]); first | done | rfl | (simp only [List.length_drop, List.length_take]; rfl)) ?_; (with_reducible refine (sealringref26_Of.calls a0 t1068 true _ A3.out).mono ?_); rintro e w45 ⟨v1070, rfl, ho0, hb⟩; refine ⟨_, rfl, ?_⟩; have n0_ := Aside0.mk (Kd.R_lower ho0 (below_size (by repeat (first | (with_reducible first | exact HB.out | apply below_alloc | apply pw_below_drewN | apply below_drew1) | exact HB.out)))); have n1_ := Aside0.mk (below_step (by repeat (first | (with_reducible first | exact HB.out | apply below_alloc | apply pw_below_drewN | apply below_drew1) | exact HB.out)) hb); clear HB; have HO1071 := n0_; have HB := n1_; clear n0_ n1_; (try clear hb); (try clear hb2); (try clear hk); (try clear hi); (try clear ho0)) | ((with_reducible refine gate_dst (N := 43) rfl ?_); refine Kd.R_lit Kd.string _ 9 ?hg (N := 43) ?hd (xs := ([(⟨#[98, 97, 110]⟩ : ByteArray), (⟨#[101, 118, 101, 110, 116, 115]⟩ : ByteArray), (⟨#[101, 118, 101, 110, 116, 115, 95, 100, 101, 102, 97, 117, 108, 116]⟩ : ByteArray), (⟨#[105, 110, 118, 105, 116, 101]⟩ : ByteArray), (⟨#[107, 105, 99, 107]⟩ : ByteArray), (⟨#[114, 101, 100, 97, 99, 116]⟩ : ByteArray), (⟨#[115, 116, 97, 116, 101, 95, 100, 101, 102, 97, 117, 108, 116]⟩ : ByteArray), (⟨#[117, 115, 101, 114, 115]⟩ : ByteArray), (⟨#[117, 115, 101, 114, 115, 95, 100, 101, 102, 97, 117, 108, 116]⟩ : ByteArray)] : List ByteArray)) (inner := [.string (⟨#[98, 97, 110]⟩ : ByteArray), .string (⟨#[101, 118, 101, 110, 116, 115]⟩ : ByteArray), .string (⟨#[101, 118, 101, 110, 116, 115, 95, 100, 101, 102, 97, 117, 108, 116]⟩ : ByteArray), .string (⟨#[105, 110, 118, 105, 116, 101]⟩ : ByteArray), .string (⟨#[107, 105, 99, 107]⟩ : ByteArray), .string (⟨#[114, 101, 100, 97, 99, 116]⟩ : ByteArray), .string (⟨#[115, 116, 97, 116, 101, 95, 100, 101, 102, 97, 117, 108, 116]⟩ : ByteArray), .string (⟨#[117, 115, 101, 114, 115]⟩ : ByteArray), .string (⟨#[117, 115, 101, 114, 115, 95, 100, 101, 102, 97, 117, 108, 116]⟩ : ByteArray)]) (ok := fun _ => True) (okp := fun _ => True) ?hr ?hp (fun _ hk => hk) trivial (Below.refl _ _) (Nat.le_refl _) (by simp) ?_; (case hd => rfl); (case hg => rfl); (case hr => first | (go_simp; done) | (go_simp; rfl)); (case hp => exact (Reps.one (show Kd.M Kd.string _ _ _ (⟨#[98, 97, 110]⟩ : ByteArray) [.string (⟨#[98, 97, 110]⟩ : ByteArray)] from rfl) (Reps.one (show Kd.M Kd.string _ _ _ (⟨#[101, 118, 101, 110, 116, 115]⟩ : ByteArray) [.string (⟨#[101, 118, 101, 110, 116, 115]⟩ : ByteArray)] from rfl) (Reps.one (show Kd.M Kd.string _ _ _ (⟨#[101, 118, 101, 110, 116, 115, 95, 100, 101, 102, 97, 117, 108, 116]⟩ : ByteArray) [.string (⟨#[101, 118, 101, 110, 116, 115, 95, 100, 101, 102, 97, 117, 108, 116]⟩ : ByteArray)] from rfl) (Reps.one (show Kd.M Kd.string _ _ _ (⟨#[105, 110, 118, 105, 116, 101]⟩ : ByteArray) [.string (⟨#[105, 110, 118, 105, 116, 101]⟩ : ByteArray)] from rfl) (Reps.one (show Kd.M Kd.string _ _ _ (⟨#[107, 105, 99, 107]⟩ : ByteArray) [.string (⟨#[107, 105, 99, 107]⟩ : ByteArray)] from rfl) (Reps.one (show Kd.M Kd.string _ _ _ (⟨#[114, 101, 100, 97, 99, 116]⟩ : ByteArray) [.string (⟨#[114, 101, 100, 97, 99, 116]⟩ : ByteArray)] from rfl) (Reps.one (show Kd.M Kd.string _ _ _ (⟨#[115, 116, 97, 116, 101, 95, 100, 101, 102, 97, 117, 108, 116]⟩ : ByteArray) [.string (⟨#[115, 116, 97, 116, 101, 95, 100, 101, 102, 97, 117, 108, 116]⟩ : ByteArray)] from rfl) (Reps.one (show Kd.M Kd.string _ _ _ (⟨#[117, 115, 101, 114, 115]⟩ : ByteArray) [.string (⟨#[117, 115, 101, 114, 115]⟩ : ByteArray)] from rfl) (Reps.one (show Kd.M Kd.string _ _ _ (⟨#[117, 115, 101, 114, 115, 95, 100, 101, 102, 97, 117, 108, 116]⟩ : ByteArray) [.string (⟨#[117, 115, 101, 114, 115, 95, 100, 101, 102, 97, 117, 108, 116]⟩ : ByteArray)] from rfl) (Reps.none _ _))))))))))); intro v1098 w46 ho47 hb hg_ hnew_; clear hg_ hnew_; (first | rw [← Ny1097.out] at ho47 | (simp only [Int.reduceToNat] at ho47; rw [← Ny1097.out] at ho47)); have n0_ := Aside0.mk (Kd.R_below (by (with_reducible repeat (first | apply Kd.R_alloc | apply Kd.R_drewN | apply Kd.R_drew)); exact HO1071.out) hb); have n1_ := Aside0.mk (Kd.R_lower ho47 (below_size (by repeat (first | (with_reducible first | exact HB.out | apply below_alloc | apply pw_below_drewN | apply below_drew1) | exact HB.out)))); have n2_ := Aside0.mk (below_step (by repeat (first | (with_reducible first | exact HB.out | apply below_alloc | apply pw_below_drewN | apply below_drew1) | exact HB.out)) hb); clear HO1071; clear HB; have HO1071 := n0_; have HO1099 := n1_; have HB := n2_; clear n0_ n1_ n2_; clear hb ho47; obtain ⟨Ao48, co48, eo48⟩ := Kd.R_slice HO1071.out; subst eo48; have p1100 : 0 ≤ (6 : Int) := (by omega); have q1100 : 6 < (t1068.length : Int) := of_decide_eq_true (by first | (with_reducible assumption) | assumption); obtain ⟨ad1100, e1100, hx1100_0⟩ := Kd.at_bool (Kd.R_reads' HO1071.out).2.2 6 p1100 q1100; cases e1100; (try simp only [show (6 : Int).toNat = 6 from rfl, Nat.reduceMul, Nat.reduceEqDiff, Go.Addr.add, ↓reduceIte] at hx1100_0); have qi1100 : (6 < t1068.length) = True := eq_true (by omega); (try rw [show ((6 : Int)).toNat = 6 from rfl] at hx1100_0); replace p1100 := eq_true p1100; replace q1100 := eq_true q1100) | ((with_reducible refine gate_dst (N := 47) rfl ?_); refine Kd.R_lit Kd.bool _ 4 ?hg (N := 47) ?hd (xs := ([true, true, true, rdOf false t1068 6, true, true, true, true, true] : List Bool)) (inner := [.bool true, .bool true, .bool true, .bool (rdOf false t1068 6), .bool true, .bool true, .bool true, .bool true, .bool true]) (ok := fun _ => True) (okp := fun _ => True) ?hr ?hp (fun _ hk => hk) trivial (Below.refl _ _) (Nat.le_refl _) (by simp) ?_; (case hd => rfl); (case hg => rfl); (case hr => first | (go_simp; done) | (go_simp; rfl)); (case hp => exact (Reps.one (show Kd.M Kd.bool _ _ _ true [.bool true] from rfl) (Reps.one (show Kd.M Kd.bool _ _ _ true [.bool true] from rfl) (Reps.one (show Kd.M Kd.bool _ _ _ true [.bool true] from rfl) (Reps.one (show Kd.M Kd.bool _ _ _ (rdOf false t1068 6) [.bool (rdOf false t1068 6)] from rfl) (Reps.one (show Kd.M Kd.bool _ _ _ true [.bool true] from rfl) (Reps.one (show Kd.M Kd.bool _ _ _ true [.bool true] from rfl) (Reps.one (show Kd.M Kd.bool _ _ _ true [.bool true] from rfl) (Reps.one (show Kd.M Kd.bool _ _ _ true [.bool true] from rfl) (Reps.one (show Kd.M Kd.bool _ _ _ true [.bool true] from rfl) (Reps.none _ _))))))))))); intro v1102 w49 ho50 hb hg_ hnew_; clear hg_ hnew_; (first | rw [← Ny1101.out] at ho50 | (simp only [Int.reduceToNat] at ho50; rw [← Ny1101.out] at ho50)); have n0_ := Aside0.mk (Kd.R_elder' (by (with_reducible repeat (first | apply Kd.R_alloc | apply Kd.R_drewN | apply Kd.R_drew)); exact HO1071.out) (Kd.R_base ho50) hb); have n1_ := Aside0.mk (Kd.R_below (by (with_reducible repeat (first | apply Kd.R_alloc | apply Kd.R_drewN | apply Kd.R_drew)); exact HO1099.out) hb); have n2_ := Aside0.mk (Kd.R_lower (Kd.R_new' ho50 (Kd.R_lt (by (with_reducible repeat (first | apply Kd.R_alloc | apply Kd.R_drewN | apply Kd.R_drew)); exact HO1071.out))) (below_size (by repeat (first | (with_reducible first | exact HB.out | apply below_alloc | apply pw_below_drewN | apply below_drew1) | exact HB.out)))); have n3_ := Aside0.mk (below_step (by repeat (first | (with_reducible first | exact HB.out | apply below_alloc | apply pw_below_drewN | apply below_drew1) | exact HB.out)) hb); clear HO1071; clear HO1099; clear HB; have HO1071 := n0_; have HO1099 := n1_; have HO1103 := n2_; have HB := n3_; clear n0_ n1_ n2_ n3_; clear hb ho50; obtain ⟨Ao51, co51, eo51⟩ := Kd.R_slice HO1099.out; subst eo51; obtain ⟨Ao52, co52, eo52⟩ := Kd.R_slice HO1103.out; subst eo52) | ((with_reducible refine gate_callee (f := 104) rfl ?_); refine goesL_ (some 48) rfl rfl Try.func104 (by kernel_rfl) rfl #[.slice Ao51 y1097.length co51, .slice Ao52 y1101.length co52] rfl (by (try simp only [List.map_toArray, List.map_cons, List.map_nil]); first | done | rfl | (simp only [List.length_drop, List.length_take]; rfl)) ?_; (with_reducible refine (sealringref32_some.calls k _ _ y1097 _ _ y1101 t1104 _ ?side1 ?side2 ?side3 ?side4 A44.out).mono ?_); (case side1 => repeat (first | exact (Kd.R_reads' HO1099.out).2.2 | (with_reducible refine Kd.C_alloc ?_ _) | (with_reducible refine Kd.C_drewN ?_ _) | (with_reducible refine Kd.C_drew ?_))); (case side2 => exact (Kd.R_reads' HO1099.out).2.1); (case side3 => repeat (first | exact (Kd.R_reads' HO1103.out).2.2 | (with_reducible refine Kd.C_alloc ?_ _) | (with_reducible refine Kd.C_drewN ?_ _) | (with_reducible refine Kd.C_drew ?_))); (case side4 => exact (Kd.R_reads' HO1103.out).2.1); rintro e w53 ⟨v1105, rfl, ho0, hb⟩; refine ⟨_, rfl, ?_⟩; have n0_ := Aside0.mk (Kd.R_below (by (with_reducible repeat (first | apply Kd.R_alloc | apply Kd.R_drewN | apply Kd.R_drew)); exact HO1071.out) hb); have n1_ := Aside0.mk (Kd.R_elder' (by (with_reducible repeat (first | apply Kd.R_alloc | apply Kd.R_drewN | apply Kd.R_drew)); exact HO1099.out) (Kd.R_base ho0) hb); have n2_ := Aside0.mk (Kd.R_below (by (with_reducible repeat (first | apply Kd.R_alloc | apply Kd.R_drewN | apply Kd.R_drew)); exact HO1103.out) hb); have n3_ := Aside0.mk (Kd.R_lower (Kd.R_new' ho0 (Kd.R_lt (by (with_reducible repeat (first | apply Kd.R_alloc | apply Kd.R_drewN | apply Kd.R_drew)); exact HO1099.out))) (below_size (by repeat (first | (with_reducible first | exact HB.out | apply below_alloc | apply pw_below_drewN | apply below_drew1) | exact HB.out)))); have n4_ := Aside0.mk (below_step (by repeat (first | (with_reducible first | exact HB.out | apply below_alloc | apply pw_below_drewN | apply below_drew1) | exact HB.out)) hb); clear HO1071; clear HO1099; clear HO1103; clear HB; have HO1071 := n0_; have HO1099 := n1_; have HO1103 := n2_; have HO1106 := n3_; have HB := n4_; clear n0_ n1_ n2_ n3_ n4_; (try clear hb); (try clear hb2); (try clear hk); (try clear hi); (try clear ho0)))
              go_ret2
              exact ⟨_, by first | rfl | (simp [errW_none, errW_some] <;> rfl) | (simp [*, errW_none, errW_some] <;> rfl), by (with_reducible repeat (first | apply Kd.R_alloc | apply Kd.R_drewN | apply Kd.R_drew)); exact Kd.R_mono HO1106.out (fun _ hk => trivial), by repeat (first | (with_reducible first | exact HB.out | apply below_alloc | apply pw_below_drewN | apply below_drew1) | exact HB.out)⟩
            · rw [if_neg c43] at H
              exact absurd H (by simp)
          · rw [if_neg c42] at H
            have c42b0 : (a1.toList == ([109, 46, 114, 111, 111, 109, 46, 112, 111, 119, 101, 114, 95, 108, 101, 118, 101, 108, 115] : List UInt8)) = false := beq_eq_false_iff_ne.mpr c42
            have c42b1 : (a1.toList != ([109, 46, 114, 111, 111, 109, 46, 112, 111, 119, 101, 114, 95, 108, 101, 118, 101, 108, 115] : List UInt8)) = true := bne_iff_ne.mpr c42
            by_cases c54 : a1.toList = ([109, 46, 114, 111, 111, 109, 46, 97, 108, 105, 97, 115, 101, 115] : List UInt8)
            · rw [if_pos c54] at H
              have c54b0 : (a1.toList == ([109, 46, 114, 111, 111, 109, 46, 97, 108, 105, 97, 115, 101, 115] : List UInt8)) = true := beq_iff_eq.mpr c54
              have c54b1 : (a1.toList != ([109, 46, 114, 111, 111, 109, 46, 97, 108, 105, 97, 115, 101, 115] : List UInt8)) = false := bne_eq_false_iff_eq.mpr c54
              clear c54
              obtain ⟨y1107, hy1107⟩ : ∃ y_ : List ByteArray, y_ = (([(⟨#[97, 108, 105, 97, 115, 101, 115]⟩ : ByteArray)] : List ByteArray)) := ⟨_, rfl⟩
              replace H : (if 3 < (t1068.length : Int) then ((sealringref32_some.f k y1107 (([rdOf false t1068 3] : List Bool))).bind fun t1114 => (some (t1114, false))) else (none)) = some (r1, r2) := by first | (rw [hy1107]; with_reducible exact H) | (have H2_ := (Option.bind_some _ _).symm.trans H; rw [hy1107]; with_reducible exact H2_) | (have H2_ := (Option.bind_some _ _).symm.trans H; with_reducible exact H2_) | with_reducible exact H | (rw [hy1107]; exact H) | exact H
              have Ny1107 := Aside0.mk hy1107
              clear hy1107
              by_cases c55 : 3 < (t1068.length : Int)
              · rw [if_pos c55] at H
                have c55b0 : decide (3 < (t1068.length : Int)) = true := decide_eq_true c55
                have c55b1 : decide (3 < t1068.length) = true := decide_eq_true (by omega)
                clear c55
                obtain ⟨y1111, hy1111⟩ : ∃ y_ : List Bool, y_ = (([rdOf false t1068 3] : List Bool)) := ⟨_, rfl⟩
                replace H : ((sealringref32_some.f k y1107 y1111).bind fun t1114 => (some (t1114, false))) = some (r1, r2) := by first | (rw [hy1111]; with_reducible exact H) | (have H2_ := (Option.bind_some _ _).symm.trans H; rw [hy1111]; with_reducible exact H2_) | (have H2_ := (Option.bind_some _ _).symm.trans H; with_reducible exact H2_) | with_reducible exact H | (rw [hy1111]; exact H) | exact H
                have Ny1111 := Aside0.mk hy1111
                clear hy1111
                replace H := Option.bind_eq_some_iff.mp H
                obtain ⟨t1114, A560, H⟩ := H
                replace H : (some (t1114, false)) = some (r1, r2) := H
                have A56 := Aside0.mk A560
                clear A560
                simp only [Option.some.injEq, Prod.mk.injEq] at H
                obtain ⟨rfl, rfl⟩ := H
                go_enter Try.func56, Try.ntmps56
                go_wp2_with (first | ((with_reducible refine gate_callee (f := 102) rfl ?_); refine goesL_ (some 10) rfl rfl Try.func102 (by kernel_rfl) rfl #[.int .i64 a0] rfl (by (try simp only [List.map_toArray, List.map_cons, List.map_nil]); first | done | rfl | (simp only [List.length_drop, List.length_take]; rfl)) ?_; (with_reducible refine (sealringref26_Of.calls a0 t1068 true _ A3.out).mono ?_); rintro e w57 ⟨v1070, rfl, ho0, hb⟩; refine ⟨_, rfl, ?_⟩; have n0_ := Aside0.mk (Kd.R_lower ho0 (below_size (by repeat (first | (with_reducible first | exact HB.out | apply below_alloc | apply pw_below_drewN | apply below_drew1) | exact HB.out)))); have n1_ := Aside0.mk (below_step (by repeat (first | (with_reducible first | exact HB.out | apply below_alloc | apply pw_below_drewN | apply below_drew1) | exact HB.out)) hb); clear HB; have HO1071 := n0_; have HB := n1_; clear n0_ n1_; (try clear hb); (try clear hb2); (try clear hk); (try clear hi); (try clear ho0)) | ((with_reducible refine gate_dst (N := 51) rfl ?_); refine Kd.R_lit Kd.string _ 9 ?hg (N := 51) ?hd (xs := ([(⟨#[97, 108, 105, 97, 115, 101, 115]⟩ : ByteArray)] : List ByteArray)) (inner := [.string (⟨#[97, 108, 105, 97, 115, 101, 115]⟩ : ByteArray)]) (ok := fun _ => True) (okp := fun _ => True) ?hr ?hp (fun _ hk => hk) trivial (Below.refl _ _) (Nat.le_refl _) (by simp) ?_; (case hd => rfl); (case hg => rfl); (case hr => first | (go_simp; done) | (go_simp; rfl)); (case hp => exact (Reps.one (show Kd.M Kd.string _ _ _ (⟨#[97, 108, 105, 97, 115, 101, 115]⟩ : ByteArray) [.string (⟨#[97, 108, 105, 97, 115, 101, 115]⟩ : ByteArray)] from rfl) (Reps.none _ _))); intro v1108 w58 ho59 hb hg_ hnew_; clear hg_ hnew_; (first | rw [← Ny1107.out] at ho59 | (simp only [Int.reduceToNat] at ho59; rw [← Ny1107.out] at ho59)); have n0_ := Aside0.mk (Kd.R_below (by (with_reducible repeat (first | apply Kd.R_alloc | apply Kd.R_drewN | apply Kd.R_drew)); exact HO1071.out) hb); have n1_ := Aside0.mk (Kd.R_lower ho59 (below_size (by repeat (first | (with_reducible first | exact HB.out | apply below_alloc | apply pw_below_drewN | apply below_drew1) | exact HB.out)))); have n2_ := Aside0.mk (below_step (by repeat (first | (with_reducible first | exact HB.out | apply below_alloc | apply pw_below_drewN | apply below_drew1) | exact HB.out)) hb); clear HO1071; clear HB; have HO1071 := n0_; have HO1109 := n1_; have HB := n2_; clear n0_ n1_ n2_; clear hb ho59; obtain ⟨Ao60, co60, eo60⟩ := Kd.R_slice HO1071.out; subst eo60; have p1110 : 0 ≤ (3 : Int) := (by omega); have q1110 : 3 < (t1068.length : Int) := of_decide_eq_true (by first | (with_reducible assumption) | assumption); obtain ⟨ad1110, e1110, hx1110_0⟩ := Kd.at_bool (Kd.R_reads' HO1071.out).2.2 3 p1110 q1110; cases e1110; (try simp only [show (3 : Int).toNat = 3 from rfl, Nat.reduceMul, Nat.reduceEqDiff, Go.Addr.add, ↓reduceIte] at hx1110_0); have qi1110 : (3 < t1068.length) = True := eq_true (by omega); (try rw [show ((3 : Int)).toNat = 3 from rfl] at hx1110_0); replace p1110 := eq_true p1110; replace q1110 := eq_true q1110) | ((with_reducible refine gate_dst (N := 55) rfl ?_); refine Kd.R_lit Kd.bool _ 4 ?hg (N := 55) ?hd (xs := ([rdOf false t1068 3] : List Bool)) (inner := [.bool (rdOf false t1068 3)]) (ok := fun _ => True) (okp := fun _ => True) ?hr ?hp (fun _ hk => hk) trivial (Below.refl _ _) (Nat.le_refl _) (by simp) ?_; (case hd => rfl); (case hg => rfl); (case hr => first | (go_simp; done) | (go_simp; rfl)); (case hp => exact (Reps.one (show Kd.M Kd.bool _ _ _ (rdOf false t1068 3) [.bool (rdOf false t1068 3)] from rfl) (Reps.none _ _))); intro v1112 w61 ho62 hb hg_ hnew_; clear hg_ hnew_; (first | rw [← Ny1111.out] at ho62 | (simp only [Int.reduceToNat] at ho62; rw [← Ny1111.out] at ho62)); have n0_ := Aside0.mk (Kd.R_elder' (by (with_reducible repeat (first | apply Kd.R_alloc | apply Kd.R_drewN | apply Kd.R_drew)); exact HO1071.out) (Kd.R_base ho62) hb); have n1_ := Aside0.mk (Kd.R_below (by (with_reducible repeat (first | apply Kd.R_alloc | apply Kd.R_drewN | apply Kd.R_drew)); exact HO1109.out) hb); have n2_ := Aside0.mk (Kd.R_lower (Kd.R_new' ho62 (Kd.R_lt (by (with_reducible repeat (first | apply Kd.R_alloc | apply Kd.R_drewN | apply Kd.R_drew)); exact HO1071.out))) (below_size (by repeat (first | (with_reducible first | exact HB.out | apply below_alloc | apply pw_below_drewN | apply below_drew1) | exact HB.out)))); have n3_ := Aside0.mk (below_step (by repeat (first | (with_reducible first | exact HB.out | apply below_alloc | apply pw_below_drewN | apply below_drew1) | exact HB.out)) hb); clear HO1071; clear HO1109; clear HB; have HO1071 := n0_; have HO1109 := n1_; have HO1113 := n2_; have HB := n3_; clear n0_ n1_ n2_ n3_; clear hb ho62; obtain ⟨Ao63, co63, eo63⟩ := Kd.R_slice HO1109.out; subst eo63; obtain ⟨Ao64, co64, eo64⟩ := Kd.R_slice HO1113.out; subst eo64) | ((with_reducible refine gate_callee (f := 104) rfl ?_); refine goesL_ (some 56) rfl rfl Try.func104 (by kernel_rfl) rfl #[.slice Ao63 y1107.length co63, .slice Ao64 y1111.length co64] rfl (by (try simp only [List.map_toArray, List.map_cons, List.map_nil]); first | done | rfl | (simp only [List.length_drop, List.length_take]; rfl)) ?_; (with_reducible refine (sealringref32_some.calls k _ _ y1107 _ _ y1111 t1114 _ ?side1 ?side2 ?side3 ?side4 A56.out).mono ?_); (case side1 => repeat (first | exact (Kd.R_reads' HO1109.out).2.2 | (with_reducible refine Kd.C_alloc ?_ _) | (with_reducible refine Kd.C_drewN ?_ _) | (with_reducible refine Kd.C_drew ?_))); (case side2 => exact (Kd.R_reads' HO1109.out).2.1); (case side3 => repeat (first | exact (Kd.R_reads' HO1113.out).2.2 | (with_reducible refine Kd.C_alloc ?_ _) | (with_reducible refine Kd.C_drewN ?_ _) | (with_reducible refine Kd.C_drew ?_))); (case side4 => exact (Kd.R_reads' HO1113.out).2.1); rintro e w65 ⟨v1115, rfl, ho0, hb⟩; refine ⟨_, rfl, ?_⟩; have n0_ := Aside0.mk (Kd.R_below (by (with_reducible repeat (first | apply Kd.R_alloc | apply Kd.R_drewN | apply Kd.R_drew)); exact HO1071.out) hb); have n1_ := Aside0.mk (Kd.R_elder' (by (with_reducible repeat (first | apply Kd.R_alloc | apply Kd.R_drewN | apply Kd.R_drew)); exact HO1109.out) (Kd.R_base ho0) hb); have n2_ := Aside0.mk (Kd.R_below (by (with_reducible repeat (first | apply Kd.R_alloc | apply Kd.R_drewN | apply Kd.R_drew)); exact HO1113.out) hb); have n3_ := Aside0.mk (Kd.R_lower (Kd.R_new' ho0 (Kd.R_lt (by (with_reducible repeat (first | apply Kd.R_alloc | apply Kd.R_drewN | apply Kd.R_drew)); exact HO1109.out))) (below_size (by repeat (first | (with_reducible first | exact HB.out | apply below_alloc | apply pw_below_drewN | apply below_drew1) | exact HB.out)))); have n4_ := Aside0.mk (below_step (by repeat (first | (with_reducible first | exact HB.out | apply below_alloc | apply pw_below_drewN | apply below_drew1) | exact HB.out)) hb); clear HO1071; clear HO1109; clear HO1113; clear HB; have HO1071 := n0_; have HO1109 := n1_; have HO1113 := n2_; have HO1116 := n3_; have HB := n4_; clear n0_ n1_ n2_ n3_ n4_; (try clear hb); (try clear hb2); (try clear hk); (try clear hi); (try clear ho0)))
                go_ret2
                exact ⟨_, by first | rfl | (simp [errW_none, errW_some] <;> rfl) | (simp [*, errW_none, errW_some] <;> rfl), by (with_reducible repeat (first | apply Kd.R_alloc | apply Kd.R_drewN | apply Kd.R_drew)); exact Kd.R_mono HO1116.out (fun _ hk => trivial), by repeat (first | (with_reducible first | exact HB.out | apply below_alloc | apply pw_below_drewN | apply below_drew1) | exact HB.out)⟩
              · rw [if_neg c55] at H
                exact absurd H (by simp)
            · rw [if_neg c54] at H
              have c54b0 : (a1.toList == ([109, 46, 114, 111, 111, 109, 46, 97, 108, 105, 97, 115, 101, 115] : List UInt8)) = false := beq_eq_false_iff_ne.mpr c54
              have c54b1 : (a1.toList != ([109, 46, 114, 111, 111, 109, 46, 97, 108, 105, 97, 115, 101, 115] : List UInt8)) = true := bne_iff_ne.mpr c54
              by_cases c66 : a1.toList = ([109, 46, 114, 111, 111, 109, 46, 104, 105, 115, 116, 111, 114, 121, 95, 118, 105, 115, 105, 98, 105, 108, 105, 116, 121] : List UInt8)
              · rw [if_pos c66] at H
                have c66b0 : (a1.toList == ([109, 46, 114, 111, 111, 109, 46, 104, 105, 115, 116, 111, 114, 121, 95, 118, 105, 115, 105, 98, 105, 108, 105, 116, 121] : List UInt8)) = true := beq_iff_eq.mpr c66
                have c66b1 : (a1.toList != ([109, 46, 114, 111, 111, 109, 46, 104, 105, 115, 116, 111, 114, 121, 95, 118, 105, 115, 105, 98, 105, 108, 105, 116, 121] : List UInt8)) = false := bne_eq_false_iff_eq.mpr c66
                clear c66
                obtain ⟨y1117, hy1117⟩ : ∃ y_ : List ByteArray, y_ = (([(⟨#[104, 105, 115, 116, 111, 114, 121, 95, 118, 105, 115, 105, 98, 105, 108, 105, 116, 121]⟩ : ByteArray)] : List ByteArray)) := ⟨_, rfl⟩
                replace H : (some (y1117, false)) = some (r1, r2) := by first | (rw [hy1117]; with_reducible exact H) | (have H2_ := (Option.bind_some _ _).symm.trans H; rw [hy1117]; with_reducible exact H2_) | (have H2_ := (Option.bind_some _ _).symm.trans H; with_reducible exact H2_) | with_reducible exact H | (rw [hy1117]; exact H) | exact H
                have Ny1117 := Aside0.mk hy1117
                clear hy1117
                simp only [Option.some.injEq, Prod.mk.injEq] at H
                obtain ⟨rfl, rfl⟩ := H
                go_enter Try.func56, Try.ntmps56
                go_wp2_with (first | ((with_reducible refine gate_callee (f := 102) rfl ?_); refine goesL_ (some 10) rfl rfl Try.func102 (by kernel_rfl) rfl #[.int .i64 a0] rfl (by (try simp only [List.map_toArray, List.map_cons, List.map_nil]); first | done | rfl | (simp only [List.length_drop, List.length_take]; rfl)) ?_; (with_reducible refine (sealringref26_Of.calls a0 t1068 true _ A3.out).mono ?_); rintro e w67 ⟨v1070, rfl, ho0, hb⟩; refine ⟨_, rfl, ?_⟩; have n0_ := Aside0.mk (Kd.R_lower ho0 (below_size (by repeat (first | (with_reducible first | exact HB.out | apply below_alloc | apply pw_below_drewN | apply below_drew1) | exact HB.out)))); have n1_ := Aside0.mk (below_step (by repeat (first | (with_reducible first | exact HB.out | apply below_alloc | apply pw_below_drewN | apply below_drew1) | exact HB.out)) hb); clear HB; have HO1071 := n0_; have HB := n1_; clear n0_ n1_; (try clear hb); (try clear hb2); (try clear hk); (try clear hi); (try clear ho0)) | ((with_reducible refine gate_dst (N := 59) rfl ?_); refine Kd.R_lit Kd.string _ 9 ?hg (N := 59) ?hd (xs := ([(⟨#[104, 105, 115, 116, 111, 114, 121, 95, 118, 105, 115, 105, 98, 105, 108, 105, 116, 121]⟩ : ByteArray)] : List ByteArray)) (inner := [.string (⟨#[104, 105, 115, 116, 111, 114, 121, 95, 118, 105, 115, 105, 98, 105, 108, 105, 116, 121]⟩ : ByteArray)]) (ok := fun _ => True) (okp := fun _ => True) ?hr ?hp (fun _ hk => hk) trivial (Below.refl _ _) (Nat.le_refl _) (by simp) ?_; (case hd => rfl); (case hg => rfl); (case hr => first | (go_simp; done) | (go_simp; rfl)); (case hp => exact (Reps.one (show Kd.M Kd.string _ _ _ (⟨#[104, 105, 115, 116, 111, 114, 121, 95, 118, 105, 115, 105, 98, 105, 108, 105, 116, 121]⟩ : ByteArray) [.string (⟨#[104, 105, 115, 116, 111, 114, 121, 95, 118, 105, 115, 105, 98, 105, 108, 105, 116, 121]⟩ : ByteArray)] from rfl) (Reps.none _ _))); intro v1118 w68 ho69 hb hg_ hnew_; clear hg_ hnew_; (first | rw [← Ny1117.out] at ho69 | (simp only [Int.reduceToNat] at ho69; rw [← Ny1117.out] at ho69)); have n0_ := Aside0.mk (Kd.R_below (by (with_reducible repeat (first | apply Kd.R_alloc | apply Kd.R_drewN | apply Kd.R_drew)); exact HO1071.out) hb); have n1_ := Aside0.mk (Kd.R_lower ho69 (below_size (by repeat (first | (with_reducible first | exact HB.out | apply below_alloc | apply pw_below_drewN | apply below_drew1) | exact HB.out)))); have n2_ := Aside0.mk (below_step (by repeat (first | (with_reducible first | exact HB.out | apply below_alloc | apply pw_below_drewN | apply below_drew1) | exact HB.out)) hb); clear HO1071; clear HB; have HO1071 := n0_; have HO1119 := n1_; have HB := n2_; clear n0_ n1_ n2_; clear hb ho69))
                go_ret2
                exact ⟨_, by first | rfl | (simp [errW_none, errW_some] <;> rfl) | (simp [*, errW_none, errW_some] <;> rfl), by (with_reducible repeat (first | apply Kd.R_alloc | apply Kd.R_drewN | apply Kd.R_drew)); exact HO1119.out, by repeat (first | (with_reducible first | exact HB.out | apply below_alloc | apply pw_below_drewN | apply below_drew1) | exact HB.out)⟩
              · rw [if_neg c66] at H
                have c66b0 : (a1.toList == ([109, 46, 114, 111, 111, 109, 46, 104, 105, 115, 116, 111, 114, 121, 95, 118, 105, 115, 105, 98, 105, 108, 105, 116, 121] : List UInt8)) = false := beq_eq_false_iff_ne.mpr c66
                have c66b1 : (a1.toList != ([109, 46, 114, 111, 111, 109, 46, 104, 105, 115, 116, 111, 114, 121, 95, 118, 105, 115, 105, 98, 105, 108, 105, 116, 121] : List UInt8)) = true := bne_iff_ne.mpr c66
                by_cases c70 : a1.toList = ([109, 46, 114, 111, 111, 109, 46, 114, 101, 100, 97, 99, 116, 105, 111, 110] : List UInt8)
                · rw [if_pos c70] at H
                  have c70b0 : (a1.toList == ([109, 46, 114, 111, 111, 109, 46, 114, 101, 100, 97, 99, 116, 105, 111, 110] : List UInt8)) = true := beq_iff_eq.mpr c70
                  have c70b1 : (a1.toList != ([109, 46, 114, 111, 111, 109, 46, 114, 101, 100, 97, 99, 116, 105, 111, 110] : List UInt8)) = false := bne_eq_false_iff_eq.mpr c70
                  clear c70
                  obtain ⟨y1120, hy1120⟩ : ∃ y_ : List ByteArray, y_ = (([(⟨#[114, 101, 100, 97, 99, 116, 115]⟩ : ByteArray)] : List ByteArray)) := ⟨_, rfl⟩
                  replace H : (if 6 < (t1068.length : Int) then ((sealringref32_some.f k y1120 (([rdOf false t1068 6] : List Bool))).bind fun t1127 => (some (t1127, false))) else (none)) = some (r1, r2) := by first | (rw [hy1120]; with_reducible exact H) | (have H2_ := (Option.bind_some _ _).symm.trans H; rw [hy1120]; with_reducible exact H2_) | (have H2_ := (Option.bind_some _ _).symm.trans H; with_reducible exact H2_) | with_reducible exact H | (rw [hy1120]; exact H) | exact H
                  have Ny1120 := Aside0.mk hy1120
                  clear hy1120
                  by_cases c71 : 6 < (t1068.length : Int)
                  · rw [if_pos c71] at H
                    have c71b0 : decide (6 < (t1068.length : Int)) = true := decide_eq_true c71
                    have c71b1 : decide (6 < t1068.length) = true := decide_eq_true (by omega)
                    clear c71
                    obtain ⟨y1124, hy1124⟩ : ∃ y_ : List Bool, y_ = (([rdOf false t1068 6] : List Bool)) := ⟨_, rfl⟩
                    replace H : ((sealringref32_some.f k y1120 y1124).bind fun t1127 => (some (t1127, false))) = some (r1, r2) := by first | (rw [hy1124]; with_reducible exact H) | (have H2_ := (Option.bind_some _ _).symm.trans H; rw [hy1124]; with_reducible exact H2_) | (have H2_ := (Option.bind_some _ _).symm.trans H; with_reducible exact H2_) | with_reducible exact H | (rw [hy1124]; exact H) | exact H
                    have Ny1124 := Aside0.mk hy1124
                    clear hy1124
                    replace H := Option.bind_eq_some_iff.mp H
                    obtain ⟨t1127, A720, H⟩ := H
                    replace H : (some (t1127, false)) = some (r1, r2) := H
                    have A72 := Aside0.mk A720
                    clear A720
                    simp only [Option.some.injEq, Prod.mk.injEq] at H
                    obtain ⟨rfl, rfl⟩ := H
                    go_enter Try.func56, Try.ntmps56
                    go_wp2_with (first | ((with_reducible refine gate_callee (f := 102) rfl ?_); refine goesL_ (some 10) rfl rfl Try.func102 (by kernel_rfl) rfl #[.int .i64 a0] rfl (by (try simp only [List.map_toArray, List.map_cons, List.map_nil]); first | done | rfl | (simp only [List.length_drop, List.length_take]; rfl)) ?_; (with_reducible refine (sealringref26_Of.calls a0 t1068 true _ A3.out).mono ?_); rintro e w73 ⟨v1070, rfl, ho0, hb⟩; refine ⟨_, rfl, ?_⟩; have n0_ := Aside0.mk (Kd.R_lower ho0 (below_size (by repeat (first | (with_reducible first | exact HB.out | apply below_alloc | apply pw_below_drewN | apply below_drew1) | exact HB.out)))); have n1_ := Aside0.mk (below_step (by repeat (first | (with_reducible first | exact HB.out | apply below_alloc | apply pw_below_drewN | apply below_drew1) | exact HB.out)) hb); clear HB; have HO1071 := n0_; have HB := n1_; clear n0_ n1_; (try clear hb); (try clear hb2); (try clear hk); (try clear hi); (try clear ho0)) | ((with_reducible refine gate_dst (N := 62) rfl ?_); refine Kd.R_lit Kd.string _ 9 ?hg (N := 62) ?hd (xs := ([(⟨#[114, 101, 100, 97, 99, 116, 115]⟩ : ByteArray)] : List ByteArray)) (inner := [.string (⟨#[114, 101, 100, 97, 99, 116, 115]⟩ : ByteArray)]) (ok := fun _ => True) (okp := fun _ => True) ?hr ?hp (fun _ hk => hk) trivial (Below.refl _ _) (Nat.le_refl _) (by simp) ?_; (case hd => rfl); (case hg => rfl); (case hr => first | (go_simp; done) | (go_simp; rfl)); (case hp => exact (Reps.one (show Kd.M Kd.string _ _ _ (⟨#[114, 101, 100, 97, 99, 116, 115]⟩ : ByteArray) [.string (⟨#[114, 101, 100, 97, 99, 116, 115]⟩ : ByteArray)] from rfl) (Reps.none _ _))); intro v1121 w74 ho75 hb hg_ hnew_; clear hg_ hnew_; (first | rw [← Ny1120.out] at ho75 | (simp only [Int.reduceToNat] at ho75; rw [← Ny1120.out] at ho75)); have n0_ := Aside0.mk (Kd.R_below (by (with_reducible repeat (first | apply Kd.R_alloc | apply Kd.R_drewN | apply Kd.R_drew)); exact HO1071.out) hb); have n1_ := Aside0.mk (Kd.R_lower ho75 (below_size (by repeat (first | (with_reducible first | exact HB.out | apply below_alloc | apply pw_below_drewN | apply below_drew1) | exact HB.out)))); have n2_ := Aside0.mk (below_step (by repeat (first | (with_reducible first | exact HB.out | apply below_alloc | apply pw_below_drewN | apply below_drew1) | exact HB.out)) hb); clear HO1071; clear HB; have HO1071 := n0_; have HO1122 := n1_; have HB := n2_; clear n0_ n1_ n2_; clear hb ho75; obtain ⟨Ao76, co76, eo76⟩ := Kd.R_slice HO1071.out; subst eo76; have p1123 : 0 ≤ (6 : Int) := (by omega); have q1123 : 6 < (t1068.length : Int) := of_decide_eq_true (by first | (with_reducible assumption) | assumption); obtain ⟨ad1123, e1123, hx1123_0⟩ := Kd.at_bool (Kd.R_reads' HO1071.out).2.2 6 p1123 q1123; cases e1123; (try simp only [show (6 : Int).toNat = 6 from rfl, Nat.reduceMul, Nat.reduceEqDiff, Go.Addr.add, ↓reduceIte] at hx1123_0); have qi1123 : (6 < t1068.length) = True := eq_true (by omega); (try rw [show ((6 : Int)).toNat = 6 from rfl] at hx1123_0); replace p1123 := eq_true p1123; replace q1123 := eq_true q1123) | ((with_reducible refine gate_dst (N := 66) rfl ?_); refine Kd.R_lit Kd.bool _ 4 ?hg (N := 66) ?hd (xs := ([rdOf false t1068 6] : List Bool)) (inner := [.bool (rdOf false t1068 6)]) (ok := fun _ => True) (okp := fun _ => True) ?hr ?hp (fun _ hk => hk) trivial (Below.refl _ _) (Nat.le_refl _) (by simp) ?_; (case hd => rfl); (case hg => rfl); (case hr => first | (go_simp; done) | (go_simp; rfl)); (case hp => exact (Reps.one (show Kd.M Kd.bool _ _ _ (rdOf false t1068 6) [.bool (rdOf false t1068 6)] from rfl) (Reps.none _ _))); intro v1125 w77 ho78 hb hg_ hnew_; clear hg_ hnew_; (first | rw [← Ny1124.out] at ho78 | (simp only [Int.reduceToNat] at ho78; rw [← Ny1124.out] at ho78)); have n0_ := Aside0.mk (Kd.R_elder' (by (with_reducible repeat (first | apply Kd.R_alloc | apply Kd.R_drewN | apply Kd.R_drew)); exact HO1071.out) (Kd.R_base ho78) hb); have n1_ := Aside0.mk (Kd.R_below (by (with_reducible repeat (first | apply Kd.R_alloc | apply Kd.R_drewN | apply Kd.R_drew)); exact HO1122.out) hb); have n2_ := Aside0.mk (Kd.R_lower (Kd.R_new' ho78 (Kd.R_lt (by (with_reducible repeat (first | apply Kd.R_alloc | apply Kd.R_drewN | apply Kd.R_drew)); exact HO1071.out))) (below_size (by repeat (first | (with_reducible first | exact HB.out | apply below_alloc | apply pw_below_drewN | apply below_drew1) | exact HB.out)))); have n3_ := Aside0.mk (below_step (by repeat (first | (with_reducible first | exact HB.out | apply below_alloc | apply pw_below_drewN | apply below_drew1) | exact HB.out)) hb); clear HO1071; clear HO1122; clear HB; have HO1071 := n0_; have HO1122 := n1_; have HO1126 := n2_; have HB := n3_; clear n0_ n1_ n2_ n3_; clear hb ho78; obtain ⟨Ao79, co79, eo79⟩ := Kd.R_slice HO1122.out; subst eo79; obtain ⟨Ao80, co80, eo80⟩ := Kd.R_slice HO1126.out; subst eo80) | ((with_reducible refine gate_callee (f := 104) rfl ?_); refine goesL_ (some 67) rfl rfl Try.func104 (by kernel_rfl) rfl #[.slice Ao79 y1120.length co79, .slice Ao80 y1124.length co80] rfl (by (try simp only [List.map_toArray, List.map_cons, List.map_nil]); first | done | rfl | (simp only [List.length_drop, List.length_take]; rfl)) ?_; (with_reducible refine (sealringref32_some.calls k _ _ y1120 _ _ y1124 t1127 _ ?side1 ?side2 ?side3 ?side4 A72.out).mono ?_); (case side1 => repeat (first | exact (Kd.R_reads' HO1122.out).2.2 | (with_reducible refine Kd.C_alloc ?_ _) | (with_reducible refine Kd.C_drewN ?_ _) | (with_reducible refine Kd.C_drew ?_))); (case side2 => exact (Kd.R_reads' HO1122.out).2.1); (case side3 => repeat (first | exact (Kd.R_reads' HO1126.out).2.2 | (with_reducible refine Kd.C_alloc ?_ _) | (with_reducible refine Kd.C_drewN ?_ _) | (with_reducible refine Kd.C_drew ?_))); (case side4 => exact (Kd.R_reads' HO1126.out).2.1); rintro e w81 ⟨v1128, rfl, ho0, hb⟩; refine ⟨_, rfl, ?_⟩; have n0_ := Aside0.mk (Kd.R_below (by (with_reducible repeat (first | apply Kd.R_alloc | apply Kd.R_drewN | apply Kd.R_drew)); exact HO1071.out) hb); have n1_ := Aside0.mk (Kd.R_elder' (by (with_reducible repeat (first | apply Kd.R_alloc | apply Kd.R_drewN | apply Kd.R_drew)); exact HO1122.out) (Kd.R_base ho0) hb); have n2_ := Aside0.mk (Kd.R_below (by (with_reducible repeat (first | apply Kd.R_alloc | apply Kd.R_drewN | apply Kd.R_drew)); exact HO1126.out) hb); have n3_ := Aside0.mk (Kd.R_lower (Kd.R_new' ho0 (Kd.R_lt (by (with_reducible repeat (first | apply Kd.R_alloc | apply Kd.R_drewN | apply Kd.R_drew)); exact HO1122.out))) (below_size (by repeat (first | (with_reducible first | exact HB.out | apply below_alloc | apply pw_below_drewN | apply below_drew1) | exact HB.out)))); have n4_ := Aside0.mk (below_step (by repeat (first | (with_reducible first | exact HB.out | apply below_alloc | apply pw_below_drewN | apply below_drew1) | exact HB.out)) hb); clear HO1071; clear HO1122; clear HO1126; clear HB; have HO1071 := n0_; have HO1122 := n1_; have HO1126 := n2_; have HO1129 := n3_; have HB := n4_; clear n0_ n1_ n2_ n3_ n4_; (try clear hb); (try clear hb2); (try clear hk); (try clear hi); (try clear ho0)))
                    go_ret2
                    exact ⟨_, by first | rfl | (simp [errW_none, errW_some] <;> rfl) | (simp [*, errW_none, errW_some] <;> rfl), by (with_reducible repeat (first | apply Kd.R_alloc | apply Kd.R_drewN | apply Kd.R_drew)); exact Kd.R_mono HO1129.out (fun _ hk => trivial), by repeat (first | (with_reducible first | exact HB.out | apply below_alloc | apply pw_below_drewN | apply below_drew1) | exact HB.out)⟩
                  · rw [if_neg c71] at H
                    exact absurd H (by simp)
                · rw [if_neg c70] at H
                  have c70b0 : (a1.toList == ([109, 46, 114, 111, 111, 109, 46, 114, 101, 100, 97, 99, 116, 105, 111, 110] : List UInt8)) = false := beq_eq_false_iff_ne.mpr c70
                  have c70b1 : (a1.toList != ([109, 46, 114, 111, 111, 109, 46, 114, 101, 100, 97, 99, 116, 105, 111, 110] : List UInt8)) = true := bne_iff_ne.mpr c70
                  simp only [Option.some.injEq, Prod.mk.injEq] at H
                  obtain ⟨rfl, rfl⟩ := H
                  go_enter Try.func56, Try.ntmps56
                  go_wp2_with (first | ((with_reducible refine gate_callee (f := 102) rfl ?_); refine goesL_ (some 10) rfl rfl Try.func102 (by kernel_rfl) rfl #[.int .i64 a0] rfl (by (try simp only [List.map_toArray, List.map_cons, List.map_nil]); first | done | rfl | (simp only [List.length_drop, List.length_take]; rfl)) ?_; (with_reducible refine (sealringref26_Of.calls a0 t1068 true _ A3.out).mono ?_); rintro e w82 ⟨v1070, rfl, ho0, hb⟩; refine ⟨_, rfl, ?_⟩; have n0_ := Aside0.mk (Kd.R_lower ho0 (below_size (by repeat (first | (with_reducible first | exact HB.out | apply below_alloc | apply pw_below_drewN | apply below_drew1) | exact HB.out)))); have n1_ := Aside0.mk (below_step (by repeat (first | (with_reducible first | exact HB.out | apply below_alloc | apply pw_below_drewN | apply below_drew1) | exact HB.out)) hb); clear HB; have HO1071 := n0_; have HB := n1_; clear n0_ n1_; (try clear hb); (try clear hb2); (try clear hk); (try clear hi); (try clear ho0)))
                  go_ret2
                  exact ⟨_, by first | rfl | (simp [errW_none, errW_some] <;> rfl) | (simp [*, errW_none, errW_some] <;> rfl), by first | exact Kd.R_nil _ _ _ _ _ | exact Kd.N_nil _ _ _ _ _ | exact Kd.V_nil _ _ _ _ _ | exact Kd.Q_nil _ _ _ _ _ | exact Kd.S_nil _ _ _ _ _, by repeat (first | (with_reducible first | exact HB.out | apply below_alloc | apply pw_below_drewN | apply below_drew1) | exact HB.out)⟩
  · replace c4 := Bool.eq_false_iff.mpr c4
    subst c4
    have H1 : (some (([] : List ByteArray), false)) = some (r1, r2) := by rw [if_neg (show ¬ (false = true) by decide)] at H; exact H
    clear H
    have H := H1
    clear H1
    simp only [Option.some.injEq, Prod.mk.injEq] at H
    obtain ⟨rfl, rfl⟩ := H
    go_enter Try.func56, Try.ntmps56
    go_wp2_with (first | ((with_reducible refine gate_callee (f := 102) rfl ?_); refine goesL_ (some 10) rfl rfl Try.func102 (by kernel_rfl) rfl #[.int .i64 a0] rfl (by (try simp only [List.map_toArray, List.map_cons, List.map_nil]); first | done | rfl | (simp only [List.length_drop, List.length_take]; rfl)) ?_; (with_reducible refine (sealringref26_Of.calls a0 t1068 false _ A3.out).mono ?_); rintro e w83 ⟨v1070, rfl, ho0, hb⟩; refine ⟨_, rfl, ?_⟩; have n0_ := Aside0.mk (Kd.R_lower ho0 (below_size (by repeat (first | (with_reducible first | exact HB.out | apply below_alloc | apply pw_below_drewN | apply below_drew1) | exact HB.out)))); have n1_ := Aside0.mk (below_step (by repeat (first | (with_reducible first | exact HB.out | apply below_alloc | apply pw_below_drewN | apply below_drew1) | exact HB.out)) hb); clear HB; have HO1071 := n0_; have HB := n1_; clear n0_ n1_; (try clear hb); (try clear hb2); (try clear hk); (try clear hi); (try clear ho0)))
    go_ret2
    exact ⟨_, by first | rfl | (simp [errW_none, errW_some] <;> rfl) | (simp [*, errW_none, errW_some] <;> rfl), by first | exact Kd.R_nil _ _ _ _ _ | exact Kd.N_nil _ _ _ _ _ | exact Kd.V_nil _ _ _ _ _ | exact Kd.Q_nil _ _ _ _ _ | exact Kd.S_nil _ _ _ _ _, by repeat (first | (with_reducible first | exact HB.out | apply below_alloc | apply pw_below_drewN | apply below_drew1) | exact HB.out)⟩
end Go.Proofs.Ytbnmcnghmnhigaa.X
end
section
namespace Go.Proofs.Ytbnmcnghmnhigaa.X
open Go.RowKit Go.Proofs.YtbnmcnghmnhigaaW.PrintWords Go.Proofs.YtbnmcnghmnhigaaW.PrintLast Go.Proofs.YtbnmcnghmnhigaaW.PrintMore
attribute [local go_sem] max2_int min2_int max_two min_two max_three min_three max_four min_four
set_option linter.unusedVariables false
set_option linter.unusedSimpArgs false
def sealringref32_Inner.f (a0 : Int) (a1 : ByteArray) (a2 : ByteArray) : Option (List ByteArray × Bool) := (sealringref26_Of.f a0).bind fun bt1142 => (if bt1142.2 = true then (if 6 < (bt1142.1.length : Int) then (if rdOf false bt1142.1 6 = true then (if a1.toList = ([109, 46, 114, 111, 111, 109, 46, 109, 101, 109, 98, 101, 114] : List UInt8) then (if a2.toList = ([116, 104, 105, 114, 100, 95, 112, 97, 114, 116, 121, 95, 105, 110, 118, 105, 116, 101] : List UInt8) then (some ((([(⟨#[115, 105, 103, 110, 101, 100]⟩ : ByteArray)] : List ByteArray)), true)) else (some (([] : List ByteArray), false))) else (some (([] : List ByteArray), false))) else (some (([] : List ByteArray), false))) else (none)) else (some (([] : List ByteArray), false)))
set_option maxHeartbeats 8000000 in
set_option maxRecDepth 100000 in
theorem sealringref32_Inner.calls (a0 : Int) (a1 : ByteArray) (a2 : ByteArray) (r1 : List ByteArray) (r2 : Bool) (w : World) (h : sealringref32_Inner.f a0 a1 a2 = some (r1, r2)) :
    Calls Try.prog 58 #[.int .i64 a0, .string a1, .string a2] w fun e w' => ∃ v0_ : Value, e = .returned (.tuple #[v0_, .bool r2]) ∧ Kd.R Kd.string 9 w' w.heap.size (fun _ => True) v0_ r1 ∧ Below w.heap.size w w' := by
  have HB := Aside0.mk (Below.refl w.heap.size w)
  have H : ((sealringref26_Of.f a0).bind fun bt1142 => (if bt1142.2 = true then (if 6 < (bt1142.1.length : Int) then (if rdOf false bt1142.1 6 = true then (if a1.toList = ([109, 46, 114, 111, 111, 109, 46, 109, 101, 109, 98, 101, 114] : List UInt8) then (if a2.toList = ([116, 104, 105, 114, 100, 95, 112, 97, 114, 116, 121, 95, 105, 110, 118, 105, 116, 101] : List UInt8) then (some ((([(⟨#[115, 105, 103, 110, 101, 100]⟩ : ByteArray)] : List ByteArray)), true)) else (some (([] : List ByteArray), false))) else (some (([] : List ByteArray), false))) else (some (([] : List ByteArray), false))) else (none)) else (some (([] : List ByteArray), false)))) = some (r1, r2) := h
  clear h
  replace H := Option.bind_eq_some_iff.mp H
  obtain ⟨⟨t1142, t1143⟩, A40, H⟩ := H
  replace H : (if t1143 = true then (if 6 < (t1142.length : Int) then (if rdOf false t1142 6 = true then (if a1.toList = ([109, 46, 114, 111, 111, 109, 46, 109, 101, 109, 98, 101, 114] : List UInt8) then (if a2.toList = ([116, 104, 105, 114, 100, 95, 112, 97, 114, 116, 121, 95, 105, 110, 118, 105, 116, 101] : List UInt8) then (some ((([(⟨#[115, 105, 103, 110, 101, 100]⟩ : ByteArray)] : List ByteArray)), true)) else (some (([] : List ByteArray), false))) else (some (([] : List ByteArray), false))) else (some (([] : List ByteArray), false))) else (none)) else (some (([] : List ByteArray), false))) = some (r1, r2) := H
  have A4 := Aside0.mk A40
  clear A40
  by_cases c5 : t1143 = true
  · subst c5
    have H1 : (if 6 < (t1142.length : Int) then (if rdOf false t1142 6 = true then (if a1.toList = ([109, 46, 114, 111, 111, 109, 46, 109, 101, 109, 98, 101, 114] : List UInt8) then (if a2.toList = ([116, 104, 105, 114, 100, 95, 112, 97, 114, 116, 121, 95, 105, 110, 118, 105, 116, 101] : List UInt8) then (some ((([(⟨#[115, 105, 103, 110, 101, 100]⟩ : ByteArray)] : List ByteArray)), true)) else (some (([] : List ByteArray), false))) else (some (([] : List ByteArray), false))) else (some (([] : List ByteArray), false))) else (none)) = some (r1, r2) := by rw [if_pos rfl] at H; exact H
    clear H
    have H := H1
    clear H1
    by_cases c6 : 6 < (t1142.length : Int)
    · rw [if_pos c6] at H
      have c6b0 : decide (6 < (t1142.length : Int)) = true := decide_eq_true c6
      have c6b1 : decide (6 < t1142.length) = true := decide_eq_true (by omega)
      clear c6
      obtain ⟨bq7, hbq7⟩ : ∃ b_ : Bool, b_ = (rdOf false t1142 6) := ⟨_, rfl⟩
      replace H : (if bq7 = true then (if a1.toList = ([109, 46, 114, 111, 111, 109, 46, 109, 101, 109, 98, 101, 114] : List UInt8) then (if a2.toList = ([116, 104, 105, 114, 100, 95, 112, 97, 114, 116, 121, 95, 105, 110, 118, 105, 116, 101] : List UInt8) then (some ((([(⟨#[115, 105, 103, 110, 101, 100]⟩ : ByteArray)] : List ByteArray)), true)) else (some (([] : List ByteArray), false))) else (some (([] : List ByteArray), false))) else (some (([] : List ByteArray), false))) = some (r1, r2) := by rw [← hbq7] at H; exact H
      have Nbq7 := Aside0.mk hbq7
      clear hbq7
      by_cases c8 : bq7 = true
      · subst c8
        have H1 : (if a1.toList = ([109, 46, 114, 111, 111, 109, 46, 109, 101, 109, 98, 101, 114] : List UInt8) then (if a2.toList = ([116, 104, 105, 114, 100, 95, 112, 97, 114, 116, 121, 95, 105, 110, 118, 105, 116, 101] : List UInt8) then (some ((([(⟨#[115, 105, 103, 110, 101, 100]⟩ : ByteArray)] : List ByteArray)), true)) else (some (([] : List ByteArray), false))) else (some (([] : List ByteArray), false))) = some (r1, r2) := by rw [if_pos rfl] at H; exact H
        clear H
        have H := H1
        clear H1
        by_cases c9 : a1.toList = ([109, 46, 114, 111, 111, 109, 46, 109, 101, 109, 98, 101, 114] : List UInt8)
        · rw [if_pos c9] at H
          have c9b0 : (a1.toList == ([109, 46, 114, 111, 111, 109, 46, 109, 101, 109, 98, 101, 114] : List UInt8)) = true := beq_iff_eq.mpr c9
          have c9b1 : (a1.toList != ([109, 46, 114, 111, 111, 109, 46, 109, 101, 109, 98, 101, 114] : List UInt8)) = false := bne_eq_false_iff_eq.mpr c9
          clear c9
          by_cases c10 : a2.toList = ([116, 104, 105, 114, 100, 95, 112, 97, 114, 116, 121, 95, 105, 110, 118, 105, 116, 101] : List UInt8)
          · rw [if_pos c10] at H
            have c10b0 : (a2.toList == ([116, 104, 105, 114, 100, 95, 112, 97, 114, 116, 121, 95, 105, 110, 118, 105, 116, 101] : List UInt8)) = true := beq_iff_eq.mpr c10
            have c10b1 : (a2.toList != ([116, 104, 105, 114, 100, 95, 112, 97, 114, 116, 121, 95, 105, 110, 118, 105, 116, 101] : List UInt8)) = false := bne_eq_false_iff_eq.mpr c10
            clear c10
            obtain ⟨y1147, hy1147⟩ : ∃ y_ : List ByteArray, y_ = (([(⟨#[115, 105, 103, 110, 101, 100]⟩ : ByteArray)] : List ByteArray)) := ⟨_, rfl⟩
            replace H : (some (y1147, true)) = some (r1, r2) := by first | (rw [hy1147]; with_reducible exact H) | (have H2_ := (Option.bind_some _ _).symm.trans H; rw [hy1147]; with_reducible exact H2_) | (have H2_ := (Option.bind_some _ _).symm.trans H; with_reducible exact H2_) | with_reducible exact H | (rw [hy1147]; exact H) | exact H
            have Ny1147 := Aside0.mk hy1147
            clear hy1147
            simp only [Option.some.injEq, Prod.mk.injEq] at H
            obtain ⟨rfl, rfl⟩ := H
            go_enter Try.func58, Try.ntmps58
            go_wp2_with (first | ((with_reducible refine gate_callee (f := 102) rfl ?_); refine goesL_ (some 12) rfl rfl Try.func102 (by kernel_rfl) rfl #[.int .i64 a0] rfl (by (try simp only [List.map_toArray, List.map_cons, List.map_nil]); first | done | rfl | (simp only [List.length_drop, List.length_take]; rfl)) ?_; (with_reducible refine (sealringref26_Of.calls a0 t1142 true _ A4.out).mono ?_); rintro e w11 ⟨v1144, rfl, ho0, hb⟩; refine ⟨_, rfl, ?_⟩; have n0_ := Aside0.mk (Kd.R_lower ho0 (below_size (by repeat (first | (with_reducible first | exact HB.out | apply below_alloc | apply pw_below_drewN | apply below_drew1) | exact HB.out)))); have n1_ := Aside0.mk (below_step (by repeat (first | (with_reducible first | exact HB.out | apply below_alloc | apply pw_below_drewN | apply below_drew1) | exact HB.out)) hb); clear HB; have HO1145 := n0_; have HB := n1_; clear n0_ n1_; (try clear hb); (try clear hb2); (try clear hk); (try clear hi); (try clear ho0); obtain ⟨Ao12, co12, eo12⟩ := Kd.R_slice HO1145.out; subst eo12; have p1146 : 0 ≤ (6 : Int) := (by omega); have q1146 : 6 < (t1142.length : Int) := of_decide_eq_true (by first | (with_reducible assumption) | assumption); obtain ⟨ad1146, e1146, hx1146_0⟩ := Kd.at_bool (Kd.R_reads' HO1145.out).2.2 6 p1146 q1146; (try rw [← Nbq7.out] at hx1146_0); cases e1146; (try simp only [show (6 : Int).toNat = 6 from rfl, Nat.reduceMul, Nat.reduceEqDiff, Go.Addr.add, ↓reduceIte] at hx1146_0); have qi1146 : (6 < t1142.length) = True := eq_true (by omega); (try rw [show ((6 : Int)).toNat = 6 from rfl] at hx1146_0); replace p1146 := eq_true p1146; replace q1146 := eq_true q1146) | ((with_reducible refine gate_dst (N := 29) rfl ?_); refine Kd.R_lit Kd.string _ 9 ?hg (N := 29) ?hd (xs := ([(⟨#[115, 105, 103, 110, 101, 100]⟩ : ByteArray)] : List ByteArray)) (inner := [.string (⟨#[115, 105, 103, 110, 101, 100]⟩ : ByteArray)]) (ok := fun _ => True) (okp := fun _ => True) ?hr ?hp (fun _ hk => hk) trivial (Below.refl _ _) (Nat.le_refl _) (by simp) ?_; (case hd => rfl); (case hg => rfl); (case hr => first | (go_simp; done) | (go_simp; rfl)); (case hp => exact (Reps.one (show Kd.M Kd.string _ _ _ (⟨#[115, 105, 103, 110, 101, 100]⟩ : ByteArray) [.string (⟨#[115, 105, 103, 110, 101, 100]⟩ : ByteArray)] from rfl) (Reps.none _ _))); intro v1148 w13 ho14 hb hg_ hnew_; clear hg_ hnew_; (first | rw [← Ny1147.out] at ho14 | (simp only [Int.reduceToNat] at ho14; rw [← Ny1147.out] at ho14)); have n0_ := Aside0.mk (Kd.R_below (by (with_reducible repeat (first | apply Kd.R_alloc | apply Kd.R_drewN | apply Kd.R_drew)); exact HO1145.out) hb); have n1_ := Aside0.mk (Kd.R_lower ho14 (below_size (by repeat (first | (with_reducible first | exact HB.out | apply below_alloc | apply pw_below_drewN | apply below_drew1) | exact HB.out)))); have n2_ := Aside0.mk (below_step (by repeat (first | (with_reducible first | exact HB.out | apply below_alloc | apply pw_below_drewN | apply below_drew1) | exact HB.out)) hb); clear HO1145; clear HB; have HO1145 := n0_; have HO1149 := n1_; have HB := n2_; clear n0_ n1_ n2_; clear hb ho14))
            go_ret2
            exact ⟨_, by first | rfl | (simp [errW_none, errW_some] <;> rfl) | (simp [*, errW_none, errW_some] <;> rfl), by (with_reducible repeat (first | apply Kd.R_alloc | apply Kd.R_drewN | apply Kd.R_drew)); exact HO1149.out, by repeat (first | (with_reducible first | exact HB.out | apply below_alloc | apply pw_below_drewN | apply below_drew1) | exact HB.out)⟩
          · rw [if_neg c10] at H
            have c10b0 : (a2.toList == ([116, 104, 105, 114, 100, 95, 112, 97, 114, 116, 121, 95, 105, 110, 118, 105, 116, 101] : List UInt8)) = false := beq_eq_false_iff_ne.mpr c10
            have c10b1 : (a2.toList != ([116, 104, 105, 114, 100, 95, 112, 97, 114, 116, 121, 95, 105, 110, 118, 105, 116, 101] : List UInt8)) = true := bne_iff_ne.mpr c10
            simp only [Option.some.injEq, Prod.mk.injEq] at H
            obtain ⟨rfl, rfl⟩ := H
            go_enter Try.func58, Try.ntmps58
            go_wp2_with (first | ((with_reducible refine gate_callee (f := 102) rfl ?_); refine goesL_ (some 12) rfl rfl Try.func102 (by kernel_rfl) rfl #[.int .i64 a0] rfl (by (try simp only [List.map_toArray, List.map_cons, List.map_nil]); first | done | rfl | (simp only [List.length_drop, List.length_take]; rfl)) ?_; (with_reducible refine (sealringref26_Of.calls a0 t1142 true _ A4.out).mono ?_); rintro e w15 ⟨v1144, rfl, ho0, hb⟩; refine ⟨_, rfl, ?_⟩; have n0_ := Aside0.mk (Kd.R_lower ho0 (below_size (by repeat (first | (with_reducible first | exact HB.out | apply below_alloc | apply pw_below_drewN | apply below_drew1) | exact HB.out)))); have n1_ := Aside0.mk (below_step (by repeat (first | (with_reducible first | exact HB.out | apply below_alloc | apply pw_below_drewN | apply below_drew1) | exact HB.out)) hb); clear HB; have HO1145 := n0_; have HB := n1_; clear n0_ n1_; (try clear hb); (try clear hb2); (try clear hk); (try clear hi); (try clear ho0); obtain ⟨Ao16, co16, eo16⟩ := Kd.R_slice HO1145.out; subst eo16; have p1146 : 0 ≤ (6 : Int) := (by omega); have q1146 : 6 < (t1142.length : Int) := of_decide_eq_true (by first | (with_reducible assumption) | assumption); obtain ⟨ad1146, e1146, hx1146_0⟩ := Kd.at_bool (Kd.R_reads' HO1145.out).2.2 6 p1146 q1146; (try rw [← Nbq7.out] at hx1146_0); cases e1146; (try simp only [show (6 : Int).toNat = 6 from rfl, Nat.reduceMul, Nat.reduceEqDiff, Go.Addr.add, ↓reduceIte] at hx1146_0); have qi1146 : (6 < t1142.length) = True := eq_true (by omega); (try rw [show ((6 : Int)).toNat = 6 from rfl] at hx1146_0); replace p1146 := eq_true p1146; replace q1146 := eq_true q1146))
            go_ret2
            exact ⟨_, by first | rfl | (simp [errW_none, errW_some] <;> rfl) | (simp [*, errW_none, errW_some] <;> rfl), by first | exact Kd.R_nil _ _ _ _ _ | exact Kd.N_nil _ _ _ _ _ | exact Kd.V_nil _ _ _ _ _ | exact Kd.Q_nil _ _ _ _ _ | exact Kd.S_nil _ _ _ _ _, by repeat (first | (with_reducible first | exact HB.out | apply below_alloc | apply pw_below_drewN | apply below_drew1) | exact HB.out)⟩
        · rw [if_neg c9] at H
          have c9b0 : (a1.toList == ([109, 46, 114, 111, 111, 109, 46, 109, 101, 109, 98, 101, 114] : List UInt8)) = false := beq_eq_false_iff_ne.mpr c9
          have c9b1 : (a1.toList != ([109, 46, 114, 111, 111, 109, 46, 109, 101, 109, 98, 101, 114] : List UInt8)) = true := bne_iff_ne.mpr c9
          simp only [Option.some.injEq, Prod.mk.injEq] at H
          obtain ⟨rfl, rfl⟩ := H
          go_enter Try.func58, Try.ntmps58
          go_wp2_with (first | ((with_reducible refine gate_callee (f := 102) rfl ?_); refine goesL_ (some 12) rfl rfl Try.func102 (by kernel_rfl) rfl #[.int .i64 a0] rfl (by (try simp only [List.map_toArray, List.map_cons, List.map_nil]); first | done | rfl | (simp only [List.length_drop, List.length_take]; rfl)) ?_; (with_reducible refine (sealringref26_Of.calls a0 t1142 true _ A4.out).mono ?_); rintro e w17 ⟨v1144, rfl, ho0, hb⟩; refine ⟨_, rfl, ?_⟩; have n0_ := Aside0.mk (Kd.R_lower ho0 (below_size (by repeat (first | (with_reducible first | exact HB.out | apply below_alloc | apply pw_below_drewN | apply below_drew1) | exact HB.out)))); have n1_ := Aside0.mk (below_step (by repeat (first | (with_reducible first | exact HB.out | apply below_alloc | apply pw_below_drewN | apply below_drew1) | exact HB.out)) hb); clear HB; have HO1145 := n0_; have HB := n1_; clear n0_ n1_; (try clear hb); (try clear hb2); (try clear hk); (try clear hi); (try clear ho0); obtain ⟨Ao18, co18, eo18⟩ := Kd.R_slice HO1145.out; subst eo18; have p1146 : 0 ≤ (6 : Int) := (by omega); have q1146 : 6 < (t1142.length : Int) := of_decide_eq_true (by first | (with_reducible assumption) | assumption); obtain ⟨ad1146, e1146, hx1146_0⟩ := Kd.at_bool (Kd.R_reads' HO1145.out).2.2 6 p1146 q1146; (try rw [← Nbq7.out] at hx1146_0); cases e1146; (try simp only [show (6 : Int).toNat = 6 from rfl, Nat.reduceMul, Nat.reduceEqDiff, Go.Addr.add, ↓reduceIte] at hx1146_0); have qi1146 : (6 < t1142.length) = True := eq_true (by omega); (try rw [show ((6 : Int)).toNat = 6 from rfl] at hx1146_0); replace p1146 := eq_true p1146; replace q1146 := eq_true q1146))
          go_ret2
          exact ⟨_, by first | rfl | (simp [errW_none, errW_some] <;> rfl) | (simp [*, errW_none, errW_some] <;> rfl), by first | exact Kd.R_nil _ _ _ _ _ | exact Kd.N_nil _ _ _ _ _ | exact Kd.V_nil _ _ _ _ _ | exact Kd.Q_nil _ _ _ _ _ | exact Kd.S_nil _ _ _ _ _, by repeat (first | (with_reducible first | exact HB.out | apply below_alloc | apply pw_below_drewN | apply below_drew1) | exact HB.out)⟩
      · replace c8 := Bool.eq_false_iff.mpr c8
        subst c8
        have H1 : (some (([] : List ByteArray), false)) = some (r1, r2) := by rw [if_neg (show ¬ (false = true) by decide)] at H; exact H
        clear H
        have H := H1
        clear H1
        simp only [Option.some.injEq, Prod.mk.injEq] at H
        obtain ⟨rfl, rfl⟩ := H
        go_enter Try.func58, Try.ntmps58
        go_wp2_with (first | ((with_reducible refine gate_callee (f := 102) rfl ?_); refine goesL_ (some 12) rfl rfl Try.func102 (by kernel_rfl) rfl #[.int .i64 a0] rfl (by (try simp only [List.map_toArray, List.map_cons, List.map_nil]); first | done | rfl | (simp only [List.length_drop, List.length_take]; rfl)) ?_; (with_reducible refine (sealringref26_Of.calls a0 t1142 true _ A4.out).mono ?_); rintro e w19 ⟨v1144, rfl, ho0, hb⟩; refine ⟨_, rfl, ?_⟩; have n0_ := Aside0.mk (Kd.R_lower ho0 (below_size (by repeat (first | (with_reducible first | exact HB.out | apply below_alloc | apply pw_below_drewN | apply below_drew1) | exact HB.out)))); have n1_ := Aside0.mk (below_step (by repeat (first | (with_reducible first | exact HB.out | apply below_alloc | apply pw_below_drewN | apply below_drew1) | exact HB.out)) hb); clear HB; have HO1145 := n0_; have HB := n1_; clear n0_ n1_; (try clear hb); (try clear hb2); (try clear hk); (try clear hi); (try clear ho0); obtain ⟨Ao20, co20, eo20⟩ := Kd.R_slice HO1145.out; subst eo20; have p1146 : 0 ≤ (6 : Int) := (by omega); have q1146 : 6 < (t1142.length : Int) := of_decide_eq_true (by first | (with_reducible assumption) | assumption); obtain ⟨ad1146, e1146, hx1146_0⟩ := Kd.at_bool (Kd.R_reads' HO1145.out).2.2 6 p1146 q1146; (try rw [← Nbq7.out] at hx1146_0); cases e1146; (try simp only [show (6 : Int).toNat = 6 from rfl, Nat.reduceMul, Nat.reduceEqDiff, Go.Addr.add, ↓reduceIte] at hx1146_0); have qi1146 : (6 < t1142.length) = True := eq_true (by omega); (try rw [show ((6 : Int)).toNat = 6 from rfl] at hx1146_0); replace p1146 := eq_true p1146; replace q1146 := eq_true q1146))
        go_ret2
        exact ⟨_, by first | rfl | (simp [errW_none, errW_some] <;> rfl) | (simp [*, errW_none, errW_some] <;> rfl), by first | exact Kd.R_nil _ _ _ _ _ | exact Kd.N_nil _ _ _ _ _ | exact Kd.V_nil _ _ _ _ _ | exact Kd.Q_nil _ _ _ _ _ | exact Kd.S_nil _ _ _ _ _, by repeat (first | (with_reducible first | exact HB.out | apply below_alloc | apply pw_below_drewN | apply below_drew1) | exact HB.out)⟩
    · rw [if_neg c6] at H
      exact absurd H (by simp)
  · replace c5 := Bool.eq_false_iff.mpr c5
    subst c5
    have H1 : (some (([] : List ByteArray), false)) = some (r1, r2) := by rw [if_neg (show ¬ (false = true) by decide)] at H; exact H
    clear H
    have H := H1
    clear H1
    simp only [Option.some.injEq, Prod.mk.injEq] at H
    obtain ⟨rfl, rfl⟩ := H
    go_enter Try.func58, Try.ntmps58
    go_wp2_with (first | ((with_reducible refine gate_callee (f := 102) rfl ?_); refine goesL_ (some 12) rfl rfl Try.func102 (by kernel_rfl) rfl #[.int .i64 a0] rfl (by (try simp only [List.map_toArray, List.map_cons, List.map_nil]); first | done | rfl | (simp only [List.length_drop, List.length_take]; rfl)) ?_; (with_reducible refine (sealringref26_Of.calls a0 t1142 false _ A4.out).mono ?_); rintro e w21 ⟨v1144, rfl, ho0, hb⟩; refine ⟨_, rfl, ?_⟩; have n0_ := Aside0.mk (Kd.R_lower ho0 (below_size (by repeat (first | (with_reducible first | exact HB.out | apply below_alloc | apply pw_below_drewN | apply below_drew1) | exact HB.out)))); have n1_ := Aside0.mk (below_step (by repeat (first | (with_reducible first | exact HB.out | apply below_alloc | apply pw_below_drewN | apply below_drew1) | exact HB.out)) hb); clear HB; have HO1145 := n0_; have HB := n1_; clear n0_ n1_; (try clear hb); (try clear hb2); (try clear hk); (try clear hi); (try clear ho0)))
    go_ret2
    exact ⟨_, by first | rfl | (simp [errW_none, errW_some] <;> rfl) | (simp [*, errW_none, errW_some] <;> rfl), by first | exact Kd.R_nil _ _ _ _ _ | exact Kd.N_nil _ _ _ _ _ | exact Kd.V_nil _ _ _ _ _ | exact Kd.Q_nil _ _ _ _ _ | exact Kd.S_nil _ _ _ _ _, by repeat (first | (with_reducible first | exact HB.out | apply below_alloc | apply pw_below_drewN | apply below_drew1) | exact HB.out)⟩
end Go.Proofs.Ytbnmcnghmnhigaa.X
end
section
namespace Go.Proofs.Ytbnmcnghmnhigaa.X
open Go.RowKit Go.Proofs.YtbnmcnghmnhigaaW.PrintWords Go.Proofs.YtbnmcnghmnhigaaW.PrintLast Go.Proofs.YtbnmcnghmnhigaaW.PrintMore
attribute [local go_sem] Go.Instr.field Go.asAgg max2_int min2_int max_two min_two max_three min_three max_four min_four
set_option linter.unusedVariables false
set_option linter.unusedSimpArgs false
def sealringlaw32_KeepTells.j0 : Nat → Int → ByteArray → ByteArray → Bool → Option (Bool)
  | 0, _, _, _, _ => none
  | k + 1, x0, x1, x2, x46 => if x46 = true then (some false) else ((keep_Content.f x0 x1).bind fun bt1173 => ((sealringref32_Content.f k x0 x1).bind fun bt1177 => ((keep_Inner.f x0 x1 x2).bind fun bt1181 => ((sealringref32_Inner.f x0 x1 x2).bind fun bt1185 => ((sealringlaw32_same.f k bt1173.1 bt1177.1).bind fun t1189 => (if t1189 = true then (if (bt1173.2 == bt1177.2) = true then ((sealringlaw32_same.f k bt1181.1 bt1185.1).bind fun t1190 => (if t1190 = true then (if (bt1181.2 == bt1185.2) = true then ((sealringlaw32_lives.f).bind fun t1191 => (some t1191)) else (some false)) else (some false))) else (some false)) else (some false)))))))
def sealringlaw32_KeepTells.f (k : Nat) (a0 : Int) (a1 : ByteArray) (a2 : ByteArray) : Option (Bool) := (keep_Top.f a0).bind fun bt1164 => ((sealringref32_Top.f k a0).bind fun bt1168 => ((sealringlaw32_same.f k bt1164.1 bt1168.1).bind fun t1172 => (if t1172 = true then (if ((bt1164.2 == 0) != bt1168.2) = true then (sealringlaw32_KeepTells.j0 k a0 a1 a2 true) else (if bt1168.2 = true then (sealringlaw32_KeepTells.j0 k a0 a1 a2 false) else (sealringlaw32_KeepTells.j0 k a0 a1 a2 (bt1164.2 != 24)))) else (sealringlaw32_KeepTells.j0 k a0 a1 a2 true))))
theorem sealringlaw32_KeepTells.mono_l : ∀ k, (∀ y0 y1 y2 y3, LeO (sealringlaw32_KeepTells.j0 k y0 y1 y2 y3) (sealringlaw32_KeepTells.j0 (k + 1) y0 y1 y2 y3))
  | 0 => fun _ _ _ _ r h => by simp [sealringlaw32_KeepTells.j0] at h
  | k + 1 => by
    have ih0 := sealringlaw32_KeepTells.mono_l k
    · intro y0 y1 y2 y3
      unfold sealringlaw32_KeepTells.j0
      repeat' first
      | (with_reducible exact ih0 _ _ _ _)
      | (with_reducible exact sealringlaw32_same.mono _ _ _)
      | (with_reducible exact sealringref32_Content.mono _ _ _)
      | (with_reducible exact sealringref32_Top.mono _ _)
      | (with_reducible exact LeO.refl _)
      | (with_reducible exact LeO.none _)
      | (with_reducible refine LeO.ite ?_ ?_)
      | (with_reducible refine LeO.bind ?_ (fun _ => ?_))
      | exact ih0 _ _ _ _
      | exact sealringlaw32_same.mono _ _ _
      | exact sealringref32_Content.mono _ _ _
      | exact sealringref32_Top.mono _ _
      | exact LeO.none _
      | refine LeO.ite ?_ ?_
      | refine LeO.bind ?_ (fun _ => ?_)
theorem sealringlaw32_KeepTells.mono : ∀ a0 a1 a2 k, LeO (sealringlaw32_KeepTells.f k a0 a1 a2) (sealringlaw32_KeepTells.f (k + 1) a0 a1 a2) := by
  intro a0 a1 a2 k
  have ih0 := sealringlaw32_KeepTells.mono_l k
  unfold sealringlaw32_KeepTells.f
  repeat' first
      | (with_reducible exact ih0 _ _ _ _)
      | (with_reducible exact sealringlaw32_same.mono _ _ _)
      | (with_reducible exact sealringref32_Content.mono _ _ _)
      | (with_reducible exact sealringref32_Top.mono _ _)
      | (with_reducible exact LeO.refl _)
      | (with_reducible exact LeO.none _)
      | (with_reducible refine LeO.ite ?_ ?_)
      | (with_reducible refine LeO.bind ?_ (fun _ => ?_))
      | exact ih0 _ _ _ _
      | exact sealringlaw32_same.mono _ _ _
      | exact sealringref32_Content.mono _ _ _
      | exact sealringref32_Top.mono _ _
      | exact LeO.none _
      | refine LeO.ite ?_ ?_
      | refine LeO.bind ?_ (fun _ => ?_)
set_option maxHeartbeats 8000000 in
set_option maxRecDepth 100000 in
theorem sealringlaw32_KeepTells.calls (k : Nat) (a0 : Int) (a1 : ByteArray) (a2 : ByteArray) (r : Bool) (w : World) (h : sealringlaw32_KeepTells.f k a0 a1 a2 = some r) :
    Calls Try.prog 9 #[.int .i64 a0, .string a1, .string a2] w fun e w' => e = .returned (.bool r) ∧ Below w.heap.size w w' := by
  have HB := Aside0.mk (Below.refl w.heap.size w)
  have H : ((keep_Top.f a0).bind fun bt1164 => ((sealringref32_Top.f k a0).bind fun bt1168 => ((sealringlaw32_same.f k bt1164.1 bt1168.1).bind fun t1172 => (if t1172 = true then (if ((bt1164.2 == 0) != bt1168.2) = true then (sealringlaw32_KeepTells.j0 k a0 a1 a2 true) else (if bt1168.2 = true then (sealringlaw32_KeepTells.j0 k a0 a1 a2 false) else (sealringlaw32_KeepTells.j0 k a0 a1 a2 (bt1164.2 != 24)))) else (sealringlaw32_KeepTells.j0 k a0 a1 a2 true))))) = some r := h
  clear h
  replace H := Option.bind_eq_some_iff.mp H
  obtain ⟨⟨t1164, t1165⟩, A40, H⟩ := H
  replace H : ((sealringref32_Top.f k a0).bind fun bt1168 => ((sealringlaw32_same.f k t1164 bt1168.1).bind fun t1172 => (if t1172 = true then (if ((t1165 == 0) != bt1168.2) = true then (sealringlaw32_KeepTells.j0 k a0 a1 a2 true) else (if bt1168.2 = true then (sealringlaw32_KeepTells.j0 k a0 a1 a2 false) else (sealringlaw32_KeepTells.j0 k a0 a1 a2 (t1165 != 24)))) else (sealringlaw32_KeepTells.j0 k a0 a1 a2 true)))) = some r := H
  have A4 := Aside0.mk A40
  clear A40
  replace H := Option.bind_eq_some_iff.mp H
  obtain ⟨⟨t1168, t1169⟩, A50, H⟩ := H
  replace H : ((sealringlaw32_same.f k t1164 t1168).bind fun t1172 => (if t1172 = true then (if ((t1165 == 0) != t1169) = true then (sealringlaw32_KeepTells.j0 k a0 a1 a2 true) else (if t1169 = true then (sealringlaw32_KeepTells.j0 k a0 a1 a2 false) else (sealringlaw32_KeepTells.j0 k a0 a1 a2 (t1165 != 24)))) else (sealringlaw32_KeepTells.j0 k a0 a1 a2 true))) = some r := H
  have A5 := Aside0.mk A50
  clear A50
  have HC6 := Aside0.mk H
  clear H
  have hu29 := Try.underlying29
  go_enter Try.func9, Try.ntmps9
  go_upto_region 3 with (first | ((with_reducible refine gate_callee (f := 52) rfl ?_); refine goesL_ (some 21) rfl rfl Try.func52 (by kernel_rfl) rfl #[.int .i64 a0] rfl (by (try simp only [List.map_toArray, List.map_cons, List.map_nil]); first | done | rfl | (simp only [List.length_drop, List.length_take]; rfl)) ?_; (with_reducible refine (keep_Top.calls a0 t1164 t1165 _ A4.out).mono ?_); rintro e w7 ⟨v1166, rfl, ho0, hb⟩; refine ⟨_, rfl, ?_⟩; have n0_ := Aside0.mk (Kd.R_lower ho0 (below_size (by repeat (first | (with_reducible first | exact HB.out | apply below_alloc | apply pw_below_drewN | apply below_drew1) | exact HB.out)))); have n1_ := Aside0.mk (below_step (by repeat (first | (with_reducible first | exact HB.out | apply below_alloc | apply pw_below_drewN | apply below_drew1) | exact HB.out)) hb); clear HB; have HO1167 := n0_; have HB := n1_; clear n0_ n1_; (try clear hb); (try clear hb2); (try clear hk); (try clear hi); (try clear ho0)) | ((with_reducible refine gate_callee (f := 53) rfl ?_); refine goesL_ (some 26) rfl rfl Try.func53 (by kernel_rfl) rfl #[.int .i64 a0] rfl (by (try simp only [List.map_toArray, List.map_cons, List.map_nil]); first | done | rfl | (simp only [List.length_drop, List.length_take]; rfl)) ?_; (with_reducible refine (sealringref32_Top.calls k a0 t1168 t1169 _ A5.out).mono ?_); rintro e w8 ⟨v1170, rfl, ho0, hb⟩; refine ⟨_, rfl, ?_⟩; have n0_ := Aside0.mk (Kd.R_elder' (by (with_reducible repeat (first | apply Kd.R_alloc | apply Kd.R_drewN | apply Kd.R_drew)); exact HO1167.out) (Kd.R_base ho0) hb); have n1_ := Aside0.mk (Kd.R_lower (Kd.R_new' ho0 (Kd.R_lt (by (with_reducible repeat (first | apply Kd.R_alloc | apply Kd.R_drewN | apply Kd.R_drew)); exact HO1167.out))) (below_size (by repeat (first | (with_reducible first | exact HB.out | apply below_alloc | apply pw_below_drewN | apply below_drew1) | exact HB.out)))); have n2_ := Aside0.mk (below_step (by repeat (first | (with_reducible first | exact HB.out | apply below_alloc | apply pw_below_drewN | apply below_drew1) | exact HB.out)) hb); clear HO1167; clear HB; have HO1167 := n0_; have HO1171 := n1_; have HB := n2_; clear n0_ n1_ n2_; (try clear hb); (try clear hb2); (try clear hk); (try clear hi); (try clear ho0)))
  (try simp only [Act.put, List.setIfInBounds_toArray, List.set_cons_zero, List.set_cons_succ])
  go_cut [46] (fun v46 wc => ∃ (kq : Nat) (x46_5 : Bool), v46 = .bool x46_5 ∧ Aside0 (sealringlaw32_KeepTells.j0 kq a0 a1 a2 x46_5 = some r) ∧ Aside0 (kq ≤ k) ∧ Aside0 (Below w.heap.size w wc))
  case first =>
    have H := HC6.out
    clear HC6
    replace H := Option.bind_eq_some_iff.mp H
    obtain ⟨t1172, A90, H⟩ := H
    replace H : (if t1172 = true then (if ((t1165 == 0) != t1169) = true then (sealringlaw32_KeepTells.j0 k a0 a1 a2 true) else (if t1169 = true then (sealringlaw32_KeepTells.j0 k a0 a1 a2 false) else (sealringlaw32_KeepTells.j0 k a0 a1 a2 (t1165 != 24)))) else (sealringlaw32_KeepTells.j0 k a0 a1 a2 true)) = some r := H
    have A9 := Aside0.mk A90
    clear A90
    by_cases c10 : t1172 = true
    · subst c10
      have H1 : (if ((t1165 == 0) != t1169) = true then (sealringlaw32_KeepTells.j0 k a0 a1 a2 true) else (if t1169 = true then (sealringlaw32_KeepTells.j0 k a0 a1 a2 false) else (sealringlaw32_KeepTells.j0 k a0 a1 a2 (t1165 != 24)))) = some r := by rw [if_pos rfl] at H; exact H
      clear H
      have H := H1
      clear H1
      by_cases c11 : ((t1165 == 0) != t1169) = true
      · rw [if_pos c11] at H
        have c11b0 : ((t1165 == 0) != t1169) = true := c11
        (try (have c11z := c11; simp at c11z))
        (try (have c11b1 : decide ((t1165 == 0) = t1169) = false := by simpa using c11))
        (try (have c11b2 : ((t1165 == 0) == t1169) = false := by simpa using c11))
        (try (have c11b3 : ¬ ((t1165 == 0) = t1169) := by simpa using c11))
        clear c11
        (first | rw [c11b0] | (simp only [i64_w, i32_w]; rw [c11b0]) | skip)
        have H' := Aside0.mk H
        clear H
        obtain ⟨Ao12, co12, eo12⟩ := Kd.R_slice HO1167.out
        subst eo12
        obtain ⟨Ao13, co13, eo13⟩ := Kd.R_slice HO1171.out
        subst eo13
        go_wp2_with (first | ((with_reducible refine gate_callee (f := 54) rfl ?_); refine goesL_ (some 31) rfl rfl Try.func54 (by kernel_rfl) rfl #[.slice Ao12 t1164.length co12, .slice Ao13 t1168.length co13] rfl (by (try simp only [List.map_toArray, List.map_cons, List.map_nil]); first | done | rfl | (simp only [List.length_drop, List.length_take]; rfl)) ?_; (with_reducible refine (sealringlaw32_same.calls k _ _ t1164 _ _ t1168 true _ ?side1 ?side2 ?side3 ?side4 A9.out).mono ?_); (case side1 => repeat (first | exact (Kd.R_reads' HO1167.out).2.2 | (with_reducible refine Kd.C_alloc ?_ _) | (with_reducible refine Kd.C_drewN ?_ _) | (with_reducible refine Kd.C_drew ?_))); (case side2 => exact (Kd.R_reads' HO1167.out).2.1); (case side3 => repeat (first | exact (Kd.R_reads' HO1171.out).2.2 | (with_reducible refine Kd.C_alloc ?_ _) | (with_reducible refine Kd.C_drewN ?_ _) | (with_reducible refine Kd.C_drew ?_))); (case side4 => exact (Kd.R_reads' HO1171.out).2.1); rintro e w' ⟨rfl, ⟨nd, rfl⟩⟩; refine ⟨_, rfl, ?_⟩))
        go_meet
        case rel => exact ⟨_, (true), (by first | rfl | (simp; done) | (simp [*]; done)), (by first | with_reducible exact H' | exact H' | (subst_vars; exact H')), ⟨by first | omega | exact Nat.le_refl _⟩, ⟨by repeat (first | (with_reducible first | exact HB.out | apply below_alloc | apply pw_below_drewN | apply below_drew1) | exact HB.out)⟩⟩
      · rw [if_neg c11] at H
        have c11b0 : ((t1165 == 0) != t1169) = false := by simpa using c11
        (try (have c11z := c11; simp at c11z))
        (try (have c11b1 : decide ((t1165 == 0) = t1169) = true := by simpa using c11))
        (try (have c11b2 : ((t1165 == 0) == t1169) = true := by simpa using c11))
        clear c11
        (first | rw [c11b0] | (simp only [i64_w, i32_w]; rw [c11b0]) | skip)
        by_cases c14 : t1169 = true
        · subst c14
          have H1 : (sealringlaw32_KeepTells.j0 k a0 a1 a2 false) = some r := by rw [if_pos rfl] at H; exact H
          clear H
          have H := H1
          clear H1
          have H' := Aside0.mk H
          clear H
          obtain ⟨Ao15, co15, eo15⟩ := Kd.R_slice HO1167.out
          subst eo15
          obtain ⟨Ao16, co16, eo16⟩ := Kd.R_slice HO1171.out
          subst eo16
          go_wp2_with (first | ((with_reducible refine gate_callee (f := 54) rfl ?_); refine goesL_ (some 31) rfl rfl Try.func54 (by kernel_rfl) rfl #[.slice Ao15 t1164.length co15, .slice Ao16 t1168.length co16] rfl (by (try simp only [List.map_toArray, List.map_cons, List.map_nil]); first | done | rfl | (simp only [List.length_drop, List.length_take]; rfl)) ?_; (with_reducible refine (sealringlaw32_same.calls k _ _ t1164 _ _ t1168 true _ ?side1 ?side2 ?side3 ?side4 A9.out).mono ?_); (case side1 => repeat (first | exact (Kd.R_reads' HO1167.out).2.2 | (with_reducible refine Kd.C_alloc ?_ _) | (with_reducible refine Kd.C_drewN ?_ _) | (with_reducible refine Kd.C_drew ?_))); (case side2 => exact (Kd.R_reads' HO1167.out).2.1); (case side3 => repeat (first | exact (Kd.R_reads' HO1171.out).2.2 | (with_reducible refine Kd.C_alloc ?_ _) | (with_reducible refine Kd.C_drewN ?_ _) | (with_reducible refine Kd.C_drew ?_))); (case side4 => exact (Kd.R_reads' HO1171.out).2.1); rintro e w' ⟨rfl, ⟨nd, rfl⟩⟩; refine ⟨_, rfl, ?_⟩))
          go_meet
          case rel => exact ⟨_, (false), (by first | rfl | (simp; done) | (simp [*]; done)), (by first | with_reducible exact H' | exact H' | (subst_vars; exact H')), ⟨by first | omega | exact Nat.le_refl _⟩, ⟨by repeat (first | (with_reducible first | exact HB.out | apply below_alloc | apply pw_below_drewN | apply below_drew1) | exact HB.out)⟩⟩
        · replace c14 := Bool.eq_false_iff.mpr c14
          subst c14
          have H1 : (sealringlaw32_KeepTells.j0 k a0 a1 a2 (t1165 != 24)) = some r := by rw [if_neg (show ¬ (false = true) by decide)] at H; exact H
          clear H
          have H := H1
          clear H1
          have H' := Aside0.mk H
          clear H
          obtain ⟨Ao17, co17, eo17⟩ := Kd.R_slice HO1167.out
          subst eo17
          obtain ⟨Ao18, co18, eo18⟩ := Kd.R_slice HO1171.out
          subst eo18
          go_wp2_with (first | ((with_reducible refine gate_callee (f := 54) rfl ?_); refine goesL_ (some 31) rfl rfl Try.func54 (by kernel_rfl) rfl #[.slice Ao17 t1164.length co17, .slice Ao18 t1168.length co18] rfl (by (try simp only [List.map_toArray, List.map_cons, List.map_nil]); first | done | rfl | (simp only [List.length_drop, List.length_take]; rfl)) ?_; (with_reducible refine (sealringlaw32_same.calls k _ _ t1164 _ _ t1168 true _ ?side1 ?side2 ?side3 ?side4 A9.out).mono ?_); (case side1 => repeat (first | exact (Kd.R_reads' HO1167.out).2.2 | (with_reducible refine Kd.C_alloc ?_ _) | (with_reducible refine Kd.C_drewN ?_ _) | (with_reducible refine Kd.C_drew ?_))); (case side2 => exact (Kd.R_reads' HO1167.out).2.1); (case side3 => repeat (first | exact (Kd.R_reads' HO1171.out).2.2 | (with_reducible refine Kd.C_alloc ?_ _) | (with_reducible refine Kd.C_drewN ?_ _) | (with_reducible refine Kd.C_drew ?_))); (case side4 => exact (Kd.R_reads' HO1171.out).2.1); rintro e w' ⟨rfl, ⟨nd, rfl⟩⟩; refine ⟨_, rfl, ?_⟩))
          go_meet
          case rel => exact ⟨_, ((t1165 != 24)), (by first | rfl | (simp; done) | (simp [*]; done)), (by first | with_reducible exact H' | exact H' | (subst_vars; exact H')), ⟨by first | omega | exact Nat.le_refl _⟩, ⟨by repeat (first | (with_reducible first | exact HB.out | apply below_alloc | apply pw_below_drewN | apply below_drew1) | exact HB.out)⟩⟩
    · replace c10 := Bool.eq_false_iff.mpr c10
      subst c10
      have H1 : (sealringlaw32_KeepTells.j0 k a0 a1 a2 true) = some r := by rw [if_neg (show ¬ (false = true) by decide)] at H; exact H
      clear H
      have H := H1
      clear H1
      have H' := Aside0.mk H
      clear H
      obtain ⟨Ao19, co19, eo19⟩ := Kd.R_slice HO1167.out
      subst eo19
      obtain ⟨Ao20, co20, eo20⟩ := Kd.R_slice HO1171.out
      subst eo20
      go_wp2_with (first | ((with_reducible refine gate_callee (f := 54) rfl ?_); refine goesL_ (some 31) rfl rfl Try.func54 (by kernel_rfl) rfl #[.slice Ao19 t1164.length co19, .slice Ao20 t1168.length co20] rfl (by (try simp only [List.map_toArray, List.map_cons, List.map_nil]); first | done | rfl | (simp only [List.length_drop, List.length_take]; rfl)) ?_; (with_reducible refine (sealringlaw32_same.calls k _ _ t1164 _ _ t1168 false _ ?side1 ?side2 ?side3 ?side4 A9.out).mono ?_); (case side1 => repeat (first | exact (Kd.R_reads' HO1167.out).2.2 | (with_reducible refine Kd.C_alloc ?_ _) | (with_reducible refine Kd.C_drewN ?_ _) | (with_reducible refine Kd.C_drew ?_))); (case side2 => exact (Kd.R_reads' HO1167.out).2.1); (case side3 => repeat (first | exact (Kd.R_reads' HO1171.out).2.2 | (with_reducible refine Kd.C_alloc ?_ _) | (with_reducible refine Kd.C_drewN ?_ _) | (with_reducible refine Kd.C_drew ?_))); (case side4 => exact (Kd.R_reads' HO1171.out).2.1); rintro e w' ⟨rfl, ⟨nd, rfl⟩⟩; refine ⟨_, rfl, ?_⟩))
      go_meet
      case rel => exact ⟨_, (true), (by first | rfl | (simp; done) | (simp [*]; done)), (by first | with_reducible exact H' | exact H' | (subst_vars; exact H')), ⟨by first | omega | exact Nat.le_refl _⟩, ⟨by repeat (first | (with_reducible first | exact HB.out | apply below_alloc | apply pw_below_drewN | apply below_drew1) | exact HB.out)⟩⟩
  case rest =>
    clear HC6
    try clear c1
    try clear p2
    try clear c5
    try clear c9
    try clear c10
    try clear c11
    try clear c11b0
    try clear c11b1
    try clear c11b2
    try clear c14
    obtain ⟨kq, x46_5, rfl, HA, HJ5, HB⟩ := hcut
    cases kq with
    | zero => exact absurd HA.out (by simp [sealringlaw32_KeepTells.j0])
    | succ kj5 =>
      have H := HA.out
      clear HA
      simp only [sealringlaw32_KeepTells.j0] at H
      by_cases c21 : x46_5 = true
      · subst c21
        have H1 : (some false) = some r := by rw [if_pos rfl] at H; exact H
        clear H
        have H := H1
        clear H1
        obtain rfl := Option.some.inj H
        go_wp2
        go_ret
        exact ⟨by first | rfl | (simp [errW_none, errW_some] <;> rfl) | (simp [*, errW_none, errW_some] <;> rfl), by repeat (first | (with_reducible first | exact HB.out | apply below_alloc | apply pw_below_drewN | apply below_drew1) | exact HB.out)⟩
      · replace c21 := Bool.eq_false_iff.mpr c21
        subst c21
        have H1 : ((keep_Content.f a0 a1).bind fun bt1173 => ((sealringref32_Content.f kj5 a0 a1).bind fun bt1177 => ((keep_Inner.f a0 a1 a2).bind fun bt1181 => ((sealringref32_Inner.f a0 a1 a2).bind fun bt1185 => ((sealringlaw32_same.f kj5 bt1173.1 bt1177.1).bind fun t1189 => (if t1189 = true then (if (bt1173.2 == bt1177.2) = true then ((sealringlaw32_same.f kj5 bt1181.1 bt1185.1).bind fun t1190 => (if t1190 = true then (if (bt1181.2 == bt1185.2) = true then ((sealringlaw32_lives.f).bind fun t1191 => (some t1191)) else (some false)) else (some false))) else (some false)) else (some false))))))) = some r := by rw [if_neg (show ¬ (false = true) by decide)] at H; exact H
        clear H
        have H := H1
        clear H1
        replace H := Option.bind_eq_some_iff.mp H
        obtain ⟨⟨t1173, t1174⟩, A220, H⟩ := H
        replace H : ((sealringref32_Content.f kj5 a0 a1).bind fun bt1177 => ((keep_Inner.f a0 a1 a2).bind fun bt1181 => ((sealringref32_Inner.f a0 a1 a2).bind fun bt1185 => ((sealringlaw32_same.f kj5 t1173 bt1177.1).bind fun t1189 => (if t1189 = true then (if (t1174 == bt1177.2) = true then ((sealringlaw32_same.f kj5 bt1181.1 bt1185.1).bind fun t1190 => (if t1190 = true then (if (bt1181.2 == bt1185.2) = true then ((sealringlaw32_lives.f).bind fun t1191 => (some t1191)) else (some false)) else (some false))) else (some false)) else (some false)))))) = some r := H
        have A22 := Aside0.mk A220
        clear A220
        replace H := Option.bind_eq_some_iff.mp H
        obtain ⟨⟨t1177, t1178⟩, A230, H⟩ := H
        replace H : ((keep_Inner.f a0 a1 a2).bind fun bt1181 => ((sealringref32_Inner.f a0 a1 a2).bind fun bt1185 => ((sealringlaw32_same.f kj5 t1173 t1177).bind fun t1189 => (if t1189 = true then (if (t1174 == t1178) = true then ((sealringlaw32_same.f kj5 bt1181.1 bt1185.1).bind fun t1190 => (if t1190 = true then (if (bt1181.2 == bt1185.2) = true then ((sealringlaw32_lives.f).bind fun t1191 => (some t1191)) else (some false)) else (some false))) else (some false)) else (some false))))) = some r := H
        have A23 := Aside0.mk A230
        clear A230
        replace H := Option.bind_eq_some_iff.mp H
        obtain ⟨⟨t1181, t1182⟩, A240, H⟩ := H
        replace H : ((sealringref32_Inner.f a0 a1 a2).bind fun bt1185 => ((sealringlaw32_same.f kj5 t1173 t1177).bind fun t1189 => (if t1189 = true then (if (t1174 == t1178) = true then ((sealringlaw32_same.f kj5 t1181 bt1185.1).bind fun t1190 => (if t1190 = true then (if (t1182 == bt1185.2) = true then ((sealringlaw32_lives.f).bind fun t1191 => (some t1191)) else (some false)) else (some false))) else (some false)) else (some false)))) = some r := H
        have A24 := Aside0.mk A240
        clear A240
        replace H := Option.bind_eq_some_iff.mp H
        obtain ⟨⟨t1185, t1186⟩, A250, H⟩ := H
        replace H : ((sealringlaw32_same.f kj5 t1173 t1177).bind fun t1189 => (if t1189 = true then (if (t1174 == t1178) = true then ((sealringlaw32_same.f kj5 t1181 t1185).bind fun t1190 => (if t1190 = true then (if (t1182 == t1186) = true then ((sealringlaw32_lives.f).bind fun t1191 => (some t1191)) else (some false)) else (some false))) else (some false)) else (some false))) = some r := H
        have A25 := Aside0.mk A250
        clear A250
        replace H := Option.bind_eq_some_iff.mp H
        obtain ⟨t1189, A260, H⟩ := H
        replace H : (if t1189 = true then (if (t1174 == t1178) = true then ((sealringlaw32_same.f kj5 t1181 t1185).bind fun t1190 => (if t1190 = true then (if (t1182 == t1186) = true then ((sealringlaw32_lives.f).bind fun t1191 => (some t1191)) else (some false)) else (some false))) else (some false)) else (some false)) = some r := H
        have A26 := Aside0.mk A260
        clear A260
        by_cases c27 : t1189 = true
        · subst c27
          have H1 : (if (t1174 == t1178) = true then ((sealringlaw32_same.f kj5 t1181 t1185).bind fun t1190 => (if t1190 = true then (if (t1182 == t1186) = true then ((sealringlaw32_lives.f).bind fun t1191 => (some t1191)) else (some false)) else (some false))) else (some false)) = some r := by rw [if_pos rfl] at H; exact H
          clear H
          have H := H1
          clear H1
          by_cases c28 : (t1174 == t1178) = true
          · rw [if_pos c28] at H
            have c28b0 : (t1174 == t1178) = true := c28
            (try (have c28b1 : decide (t1174 = t1178) = true := by simpa using c28))
            (try (have c28b2 : (t1174 == t1178) = true := by simpa using c28))
            clear c28
            replace H := Option.bind_eq_some_iff.mp H
            obtain ⟨t1190, A290, H⟩ := H
            replace H : (if t1190 = true then (if (t1182 == t1186) = true then ((sealringlaw32_lives.f).bind fun t1191 => (some t1191)) else (some false)) else (some false)) = some r := H
            have A29 := Aside0.mk A290
            clear A290
            by_cases c30 : t1190 = true
            · subst c30
              have H1 : (if (t1182 == t1186) = true then ((sealringlaw32_lives.f).bind fun t1191 => (some t1191)) else (some false)) = some r := by rw [if_pos rfl] at H; exact H
              clear H
              have H := H1
              clear H1
              by_cases c31 : (t1182 == t1186) = true
              · rw [if_pos c31] at H
                have c31b0 : (t1182 == t1186) = true := c31
                (try (have c31b1 : decide (t1182 = t1186) = true := by simpa using c31))
                (try (have c31b2 : (t1182 == t1186) = true := by simpa using c31))
                clear c31
                replace H := Option.bind_eq_some_iff.mp H
                obtain ⟨t1191, A320, H⟩ := H
                replace H : (some t1191) = some r := H
                have A32 := Aside0.mk A320
                clear A320
                obtain rfl := Option.some.inj H
                go_wp2_with (first | ((with_reducible refine gate_callee (f := 55) rfl ?_); refine goesL_ (some 50) rfl rfl Try.func55 (by kernel_rfl) rfl #[.int .i64 a0, .string a1] rfl (by (try simp only [List.map_toArray, List.map_cons, List.map_nil]); first | done | rfl | (simp only [List.length_drop, List.length_take]; rfl)) ?_; (with_reducible refine (keep_Content.calls a0 a1 t1173 t1174 _ A22.out).mono ?_); rintro e w33 ⟨v1175, rfl, ho0, hb⟩; refine ⟨_, rfl, ?_⟩; have n0_ := Aside0.mk (Kd.R_lower ho0 (below_size (by repeat (first | (with_reducible first | exact HB.out | apply below_alloc | apply pw_below_drewN | apply below_drew1) | exact HB.out)))); have n1_ := Aside0.mk (below_step (by repeat (first | (with_reducible first | exact HB.out | apply below_alloc | apply pw_below_drewN | apply below_drew1) | exact HB.out)) hb); clear HB; have HO1176 := n0_; have HB := n1_; clear n0_ n1_; (try clear hb); (try clear hb2); (try clear hk); (try clear hi); (try clear ho0)) | ((with_reducible refine gate_callee (f := 56) rfl ?_); refine goesL_ (some 56) rfl rfl Try.func56 (by kernel_rfl) rfl #[.int .i64 a0, .string a1] rfl (by (try simp only [List.map_toArray, List.map_cons, List.map_nil]); first | done | rfl | (simp only [List.length_drop, List.length_take]; rfl)) ?_; (with_reducible refine (sealringref32_Content.calls kj5 a0 a1 t1177 t1178 _ A23.out).mono ?_); rintro e w34 ⟨v1179, rfl, ho0, hb⟩; refine ⟨_, rfl, ?_⟩; have n0_ := Aside0.mk (Kd.R_elder' (by (with_reducible repeat (first | apply Kd.R_alloc | apply Kd.R_drewN | apply Kd.R_drew)); exact HO1176.out) (Kd.R_base ho0) hb); have n1_ := Aside0.mk (Kd.R_lower (Kd.R_new' ho0 (Kd.R_lt (by (with_reducible repeat (first | apply Kd.R_alloc | apply Kd.R_drewN | apply Kd.R_drew)); exact HO1176.out))) (below_size (by repeat (first | (with_reducible first | exact HB.out | apply below_alloc | apply pw_below_drewN | apply below_drew1) | exact HB.out)))); have n2_ := Aside0.mk (below_step (by repeat (first | (with_reducible first | exact HB.out | apply below_alloc | apply pw_below_drewN | apply below_drew1) | exact HB.out)) hb); clear HO1176; clear HB; have HO1176 := n0_; have HO1180 := n1_; have HB := n2_; clear n0_ n1_ n2_; (try clear hb); (try clear hb2); (try clear hk); (try clear hi); (try clear ho0)) | ((with_reducible refine gate_callee (f := 57) rfl ?_); refine goesL_ (some 63) rfl rfl Try.func57 (by kernel_rfl) rfl #[.int .i64 a0, .string a1, .string a2] rfl (by (try simp only [List.map_toArray, List.map_cons, List.map_nil]); first | done | rfl | (simp only [List.length_drop, List.length_take]; rfl)) ?_; (with_reducible refine (keep_Inner.calls a0 a1 a2 t1181 t1182 _ A24.out).mono ?_); rintro e w35 ⟨v1183, rfl, ho0, hb⟩; refine ⟨_, rfl, ?_⟩; have n0_ := Aside0.mk (Kd.R_elder' (by (with_reducible repeat (first | apply Kd.R_alloc | apply Kd.R_drewN | apply Kd.R_drew)); exact HO1176.out) (Kd.R_base ho0) hb); have n1_ := Aside0.mk (Kd.R_elder' (by (with_reducible repeat (first | apply Kd.R_alloc | apply Kd.R_drewN | apply Kd.R_drew)); exact HO1180.out) (Kd.R_base ho0) hb); have n2_ := Aside0.mk (Kd.R_lower (Kd.R_new' (Kd.R_new' ho0 (Kd.R_lt (by (with_reducible repeat (first | apply Kd.R_alloc | apply Kd.R_drewN | apply Kd.R_drew)); exact HO1176.out))) (Kd.R_lt (by (with_reducible repeat (first | apply Kd.R_alloc | apply Kd.R_drewN | apply Kd.R_drew)); exact HO1180.out))) (below_size (by repeat (first | (with_reducible first | exact HB.out | apply below_alloc | apply pw_below_drewN | apply below_drew1) | exact HB.out)))); have n3_ := Aside0.mk (below_step (by repeat (first | (with_reducible first | exact HB.out | apply below_alloc | apply pw_below_drewN | apply below_drew1) | exact HB.out)) hb); clear HO1176; clear HO1180; clear HB; have HO1176 := n0_; have HO1180 := n1_; have HO1184 := n2_; have HB := n3_; clear n0_ n1_ n2_ n3_; (try clear hb); (try clear hb2); (try clear hk); (try clear hi); (try clear ho0)) | ((with_reducible refine gate_callee (f := 58) rfl ?_); refine goesL_ (some 70) rfl rfl Try.func58 (by kernel_rfl) rfl #[.int .i64 a0, .string a1, .string a2] rfl (by (try simp only [List.map_toArray, List.map_cons, List.map_nil]); first | done | rfl | (simp only [List.length_drop, List.length_take]; rfl)) ?_; (with_reducible refine (sealringref32_Inner.calls a0 a1 a2 t1185 t1186 _ A25.out).mono ?_); rintro e w36 ⟨v1187, rfl, ho0, hb⟩; refine ⟨_, rfl, ?_⟩; have n0_ := Aside0.mk (Kd.R_elder' (by (with_reducible repeat (first | apply Kd.R_alloc | apply Kd.R_drewN | apply Kd.R_drew)); exact HO1176.out) (Kd.R_base ho0) hb); have n1_ := Aside0.mk (Kd.R_elder' (by (with_reducible repeat (first | apply Kd.R_alloc | apply Kd.R_drewN | apply Kd.R_drew)); exact HO1180.out) (Kd.R_base ho0) hb); have n2_ := Aside0.mk (Kd.R_elder' (by (with_reducible repeat (first | apply Kd.R_alloc | apply Kd.R_drewN | apply Kd.R_drew)); exact HO1184.out) (Kd.R_base ho0) hb); have n3_ := Aside0.mk (Kd.R_lower (Kd.R_new' (Kd.R_new' (Kd.R_new' ho0 (Kd.R_lt (by (with_reducible repeat (first | apply Kd.R_alloc | apply Kd.R_drewN | apply Kd.R_drew)); exact HO1176.out))) (Kd.R_lt (by (with_reducible repeat (first | apply Kd.R_alloc | apply Kd.R_drewN | apply Kd.R_drew)); exact HO1180.out))) (Kd.R_lt (by (with_reducible repeat (first | apply Kd.R_alloc | apply Kd.R_drewN | apply Kd.R_drew)); exact HO1184.out))) (below_size (by repeat (first | (with_reducible first | exact HB.out | apply below_alloc | apply pw_below_drewN | apply below_drew1) | exact HB.out)))); have n4_ := Aside0.mk (below_step (by repeat (first | (with_reducible first | exact HB.out | apply below_alloc | apply pw_below_drewN | apply below_drew1) | exact HB.out)) hb); clear HO1176; clear HO1180; clear HO1184; clear HB; have HO1176 := n0_; have HO1180 := n1_; have HO1184 := n2_; have HO1188 := n3_; have HB := n4_; clear n0_ n1_ n2_ n3_ n4_; (try clear hb); (try clear hb2); (try clear hk); (try clear hi); (try clear ho0); obtain ⟨Ao37, co37, eo37⟩ := Kd.R_slice HO1176.out; subst eo37; obtain ⟨Ao38, co38, eo38⟩ := Kd.R_slice HO1180.out; subst eo38) | ((with_reducible refine gate_callee (f := 54) rfl ?_); refine goesL_ (some 75) rfl rfl Try.func54 (by kernel_rfl) rfl #[.slice Ao37 t1173.length co37, .slice Ao38 t1177.length co38] rfl (by (try simp only [List.map_toArray, List.map_cons, List.map_nil]); first | done | rfl | (simp only [List.length_drop, List.length_take]; rfl)) ?_; (with_reducible refine (sealringlaw32_same.calls kj5 _ _ t1173 _ _ t1177 true _ ?side1 ?side2 ?side3 ?side4 A26.out).mono ?_); (case side1 => repeat (first | exact (Kd.R_reads' HO1176.out).2.2 | (with_reducible refine Kd.C_alloc ?_ _) | (with_reducible refine Kd.C_drewN ?_ _) | (with_reducible refine Kd.C_drew ?_))); (case side2 => exact (Kd.R_reads' HO1176.out).2.1); (case side3 => repeat (first | exact (Kd.R_reads' HO1180.out).2.2 | (with_reducible refine Kd.C_alloc ?_ _) | (with_reducible refine Kd.C_drewN ?_ _) | (with_reducible refine Kd.C_drew ?_))); (case side4 => exact (Kd.R_reads' HO1180.out).2.1); rintro e w' ⟨rfl, ⟨nd, rfl⟩⟩; refine ⟨_, rfl, ?_⟩; obtain ⟨Ao39, co39, eo39⟩ := Kd.R_slice HO1184.out; subst eo39; obtain ⟨Ao40, co40, eo40⟩ := Kd.R_slice HO1188.out; subst eo40) | (go_at_call 54; (with_reducible refine (sealringlaw32_same.calls kj5 _ _ t1181 _ _ t1185 true _ ?side1 ?side2 ?side3 ?side4 A29.out).mono ?_); (case side1 => repeat (first | exact (Kd.R_reads' HO1184.out).2.2 | (with_reducible refine Kd.C_alloc ?_ _) | (with_reducible refine Kd.C_drewN ?_ _) | (with_reducible refine Kd.C_drew ?_))); (case side2 => exact (Kd.R_reads' HO1184.out).2.1); (case side3 => repeat (first | exact (Kd.R_reads' HO1188.out).2.2 | (with_reducible refine Kd.C_alloc ?_ _) | (with_reducible refine Kd.C_drewN ?_ _) | (with_reducible refine Kd.C_drew ?_))); (case side4 => exact (Kd.R_reads' HO1188.out).2.1); rintro e w' ⟨rfl, ⟨nd, rfl⟩⟩) | (go_at_call 59; (with_reducible refine (sealringlaw32_lives.calls  t1191 _ A32.out).mono ?_); rintro e w41 ⟨rfl, hb⟩; have n0_ := Aside0.mk (Kd.R_below (by (with_reducible repeat (first | apply Kd.R_alloc | apply Kd.R_drewN | apply Kd.R_drew)); exact HO1176.out) hb); have n1_ := Aside0.mk (Kd.R_below (by (with_reducible repeat (first | apply Kd.R_alloc | apply Kd.R_drewN | apply Kd.R_drew)); exact HO1180.out) hb); have n2_ := Aside0.mk (Kd.R_below (by (with_reducible repeat (first | apply Kd.R_alloc | apply Kd.R_drewN | apply Kd.R_drew)); exact HO1184.out) hb); have n3_ := Aside0.mk (Kd.R_below (by (with_reducible repeat (first | apply Kd.R_alloc | apply Kd.R_drewN | apply Kd.R_drew)); exact HO1188.out) hb); have n4_ := Aside0.mk (below_step (by repeat (first | (with_reducible first | exact HB.out | apply below_alloc | apply pw_below_drewN | apply below_drew1) | exact HB.out)) hb); clear HO1176; clear HO1180; clear HO1184; clear HO1188; clear HB; have HO1176 := n0_; have HO1180 := n1_; have HO1184 := n2_; have HO1188 := n3_; have HB := n4_; clear n0_ n1_ n2_ n3_ n4_; (try clear hb); (try clear hb2); (try clear hk); (try clear hi)))
                go_ret
                exact ⟨by first | rfl | (simp [errW_none, errW_some] <;> rfl) | (simp [*, errW_none, errW_some] <;> rfl), by repeat (first | (with_reducible first | exact HB.out | apply below_alloc | apply pw_below_drewN | apply below_drew1) | exact HB.out)⟩
              · rw [if_neg c31] at H
                have c31b0 : (t1182 == t1186) = false := by simpa using c31
                (try (have c31b1 : decide (t1182 = t1186) = false := by simpa using c31))
                (try (have c31b2 : (t1182 == t1186) = false := by simpa using c31))
                (try (have c31b3 : ¬ (t1182 = t1186) := by simpa using c31))
                clear c31
                obtain rfl := Option.some.inj H
                go_wp2_with (first | ((with_reducible refine gate_callee (f := 55) rfl ?_); refine goesL_ (some 50) rfl rfl Try.func55 (by kernel_rfl) rfl #[.int .i64 a0, .string a1] rfl (by (try simp only [List.map_toArray, List.map_cons, List.map_nil]); first | done | rfl | (simp only [List.length_drop, List.length_take]; rfl)) ?_; (with_reducible refine (keep_Content.calls a0 a1 t1173 t1174 _ A22.out).mono ?_); rintro e w42 ⟨v1175, rfl, ho0, hb⟩; refine ⟨_, rfl, ?_⟩; have n0_ := Aside0.mk (Kd.R_lower ho0 (below_size (by repeat (first | (with_reducible first | exact HB.out | apply below_alloc | apply pw_below_drewN | apply below_drew1) | exact HB.out)))); have n1_ := Aside0.mk (below_step (by repeat (first | (with_reducible first | exact HB.out | apply below_alloc | apply pw_below_drewN | apply below_drew1) | exact HB.out)) hb); clear HB; have HO1176 := n0_; have HB := n1_; clear n0_ n1_; (try clear hb); (try clear hb2); (try clear hk); (try clear hi); (try clear ho0)) | ((with_reducible refine gate_callee (f := 56) rfl ?_); refine goesL_ (some 56) rfl rfl Try.func56 (by kernel_rfl) rfl #[.int .i64 a0, .string a1] rfl (by (try simp only [List.map_toArray, List.map_cons, List.map_nil]); first | done | rfl | (simp only [List.length_drop, List.length_take]; rfl)) ?_; (with_reducible refine (sealringref32_Content.calls kj5 a0 a1 t1177 t1178 _ A23.out).mono ?_); rintro e w43 ⟨v1179, rfl, ho0, hb⟩; refine ⟨_, rfl, ?_⟩; have n0_ := Aside0.mk (Kd.R_elder' (by (with_reducible repeat (first | apply Kd.R_alloc | apply Kd.R_drewN | apply Kd.R_drew)); exact HO1176.out) (Kd.R_base ho0) hb); have n1_ := Aside0.mk (Kd.R_lower (Kd.R_new' ho0 (Kd.R_lt (by (with_reducible repeat (first | apply Kd.R_alloc | apply Kd.R_drewN | apply Kd.R_drew)); exact HO1176.out))) (below_size (by repeat (first | (with_reducible first | exact HB.out | apply below_alloc | apply pw_below_drewN | apply below_drew1) | exact HB.out)))); have n2_ := Aside0.mk (below_step (by repeat (first | (with_reducible first | exact HB.out | apply below_alloc | apply pw_below_drewN | apply below_drew1) | exact HB.out)) hb); clear HO1176; clear HB; have HO1176 := n0_; have HO1180 := n1_; have HB := n2_; clear n0_ n1_ n2_; (try clear hb); (try clear hb2); (try clear hk); (try clear hi); (try clear ho0)) | ((with_reducible refine gate_callee (f := 57) rfl ?_); refine goesL_ (some 63) rfl rfl Try.func57 (by kernel_rfl) rfl #[.int .i64 a0, .string a1, .string a2] rfl (by (try simp only [List.map_toArray, List.map_cons, List.map_nil]); first | done | rfl | (simp only [List.length_drop, List.length_take]; rfl)) ?_; (with_reducible refine (keep_Inner.calls a0 a1 a2 t1181 t1182 _ A24.out).mono ?_); rintro e w44 ⟨v1183, rfl, ho0, hb⟩; refine ⟨_, rfl, ?_⟩; have n0_ := Aside0.mk (Kd.R_elder' (by (with_reducible repeat (first | apply Kd.R_alloc | apply Kd.R_drewN | apply Kd.R_drew)); exact HO1176.out) (Kd.R_base ho0) hb); have n1_ := Aside0.mk (Kd.R_elder' (by (with_reducible repeat (first | apply Kd.R_alloc | apply Kd.R_drewN | apply Kd.R_drew)); exact HO1180.out) (Kd.R_base ho0) hb); have n2_ := Aside0.mk (Kd.R_lower (Kd.R_new' (Kd.R_new' ho0 (Kd.R_lt (by (with_reducible repeat (first | apply Kd.R_alloc | apply Kd.R_drewN | apply Kd.R_drew)); exact HO1176.out))) (Kd.R_lt (by (with_reducible repeat (first | apply Kd.R_alloc | apply Kd.R_drewN | apply Kd.R_drew)); exact HO1180.out))) (below_size (by repeat (first | (with_reducible first | exact HB.out | apply below_alloc | apply pw_below_drewN | apply below_drew1) | exact HB.out)))); have n3_ := Aside0.mk (below_step (by repeat (first | (with_reducible first | exact HB.out | apply below_alloc | apply pw_below_drewN | apply below_drew1) | exact HB.out)) hb); clear HO1176; clear HO1180; clear HB; have HO1176 := n0_; have HO1180 := n1_; have HO1184 := n2_; have HB := n3_; clear n0_ n1_ n2_ n3_; (try clear hb); (try clear hb2); (try clear hk); (try clear hi); (try clear ho0)) | ((with_reducible refine gate_callee (f := 58) rfl ?_); refine goesL_ (some 70) rfl rfl Try.func58 (by kernel_rfl) rfl #[.int .i64 a0, .string a1, .string a2] rfl (by (try simp only [List.map_toArray, List.map_cons, List.map_nil]); first | done | rfl | (simp only [List.length_drop, List.length_take]; rfl)) ?_; (with_reducible refine (sealringref32_Inner.calls a0 a1 a2 t1185 t1186 _ A25.out).mono ?_); rintro e w45 ⟨v1187, rfl, ho0, hb⟩; refine ⟨_, rfl, ?_⟩; have n0_ := Aside0.mk (Kd.R_elder' (by (with_reducible repeat (first | apply Kd.R_alloc | apply Kd.R_drewN | apply Kd.R_drew)); exact HO1176.out) (Kd.R_base ho0) hb); have n1_ := Aside0.mk (Kd.R_elder' (by (with_reducible repeat (first | apply Kd.R_alloc | apply Kd.R_drewN | apply Kd.R_drew)); exact HO1180.out) (Kd.R_base ho0) hb); have n2_ := Aside0.mk (Kd.R_elder' (by (with_reducible repeat (first | apply Kd.R_alloc | apply Kd.R_drewN | apply Kd.R_drew)); exact HO1184.out) (Kd.R_base ho0) hb); have n3_ := Aside0.mk (Kd.R_lower (Kd.R_new' (Kd.R_new' (Kd.R_new' ho0 (Kd.R_lt (by (with_reducible repeat (first | apply Kd.R_alloc | apply Kd.R_drewN | apply Kd.R_drew)); exact HO1176.out))) (Kd.R_lt (by (with_reducible repeat (first | apply Kd.R_alloc | apply Kd.R_drewN | apply Kd.R_drew)); exact HO1180.out))) (Kd.R_lt (by (with_reducible repeat (first | apply Kd.R_alloc | apply Kd.R_drewN | apply Kd.R_drew)); exact HO1184.out))) (below_size (by repeat (first | (with_reducible first | exact HB.out | apply below_alloc | apply pw_below_drewN | apply below_drew1) | exact HB.out)))); have n4_ := Aside0.mk (below_step (by repeat (first | (with_reducible first | exact HB.out | apply below_alloc | apply pw_below_drewN | apply below_drew1) | exact HB.out)) hb); clear HO1176; clear HO1180; clear HO1184; clear HB; have HO1176 := n0_; have HO1180 := n1_; have HO1184 := n2_; have HO1188 := n3_; have HB := n4_; clear n0_ n1_ n2_ n3_ n4_; (try clear hb); (try clear hb2); (try clear hk); (try clear hi); (try clear ho0); obtain ⟨Ao46, co46, eo46⟩ := Kd.R_slice HO1176.out; subst eo46; obtain ⟨Ao47, co47, eo47⟩ := Kd.R_slice HO1180.out; subst eo47) | ((with_reducible refine gate_callee (f := 54) rfl ?_); refine goesL_ (some 75) rfl rfl Try.func54 (by kernel_rfl) rfl #[.slice Ao46 t1173.length co46, .slice Ao47 t1177.length co47] rfl (by (try simp only [List.map_toArray, List.map_cons, List.map_nil]); first | done | rfl | (simp only [List.length_drop, List.length_take]; rfl)) ?_; (with_reducible refine (sealringlaw32_same.calls kj5 _ _ t1173 _ _ t1177 true _ ?side1 ?side2 ?side3 ?side4 A26.out).mono ?_); (case side1 => repeat (first | exact (Kd.R_reads' HO1176.out).2.2 | (with_reducible refine Kd.C_alloc ?_ _) | (with_reducible refine Kd.C_drewN ?_ _) | (with_reducible refine Kd.C_drew ?_))); (case side2 => exact (Kd.R_reads' HO1176.out).2.1); (case side3 => repeat (first | exact (Kd.R_reads' HO1180.out).2.2 | (with_reducible refine Kd.C_alloc ?_ _) | (with_reducible refine Kd.C_drewN ?_ _) | (with_reducible refine Kd.C_drew ?_))); (case side4 => exact (Kd.R_reads' HO1180.out).2.1); rintro e w' ⟨rfl, ⟨nd, rfl⟩⟩; refine ⟨_, rfl, ?_⟩; obtain ⟨Ao48, co48, eo48⟩ := Kd.R_slice HO1184.out; subst eo48; obtain ⟨Ao49, co49, eo49⟩ := Kd.R_slice HO1188.out; subst eo49) | (go_at_call 54; (with_reducible refine (sealringlaw32_same.calls kj5 _ _ t1181 _ _ t1185 true _ ?side1 ?side2 ?side3 ?side4 A29.out).mono ?_); (case side1 => repeat (first | exact (Kd.R_reads' HO1184.out).2.2 | (with_reducible refine Kd.C_alloc ?_ _) | (with_reducible refine Kd.C_drewN ?_ _) | (with_reducible refine Kd.C_drew ?_))); (case side2 => exact (Kd.R_reads' HO1184.out).2.1); (case side3 => repeat (first | exact (Kd.R_reads' HO1188.out).2.2 | (with_reducible refine Kd.C_alloc ?_ _) | (with_reducible refine Kd.C_drewN ?_ _) | (with_reducible refine Kd.C_drew ?_))); (case side4 => exact (Kd.R_reads' HO1188.out).2.1); rintro e w' ⟨rfl, ⟨nd, rfl⟩⟩))
                go_ret
                exact ⟨by first | rfl | (simp [errW_none, errW_some] <;> rfl) | (simp [*, errW_none, errW_some] <;> rfl), by repeat (first | (with_reducible first | exact HB.out | apply below_alloc | apply pw_below_drewN | apply below_drew1) | exact HB.out)⟩
            · replace c30 := Bool.eq_false_iff.mpr c30
              subst c30
              have H1 : (some false) = some r := by rw [if_neg (show ¬ (false = true) by decide)] at H; exact H
              clear H
              have H := H1
              clear H1
              obtain rfl := Option.some.inj H
              go_wp2_with (first | ((with_reducible refine gate_callee (f := 55) rfl ?_); refine goesL_ (some 50) rfl rfl Try.func55 (by kernel_rfl) rfl #[.int .i64 a0, .string a1] rfl (by (try simp only [List.map_toArray, List.map_cons, List.map_nil]); first | done | rfl | (simp only [List.length_drop, List.length_take]; rfl)) ?_; (with_reducible refine (keep_Content.calls a0 a1 t1173 t1174 _ A22.out).mono ?_); rintro e w50 ⟨v1175, rfl, ho0, hb⟩; refine ⟨_, rfl, ?_⟩; have n0_ := Aside0.mk (Kd.R_lower ho0 (below_size (by repeat (first | (with_reducible first | exact HB.out | apply below_alloc | apply pw_below_drewN | apply below_drew1) | exact HB.out)))); have n1_ := Aside0.mk (below_step (by repeat (first | (with_reducible first | exact HB.out | apply below_alloc | apply pw_below_drewN | apply below_drew1) | exact HB.out)) hb); clear HB; have HO1176 := n0_; have HB := n1_; clear n0_ n1_; (try clear hb); (try clear hb2); (try clear hk); (try clear hi); (try clear ho0)) | ((with_reducible refine gate_callee (f := 56) rfl ?_); refine goesL_ (some 56) rfl rfl Try.func56 (by kernel_rfl) rfl #[.int .i64 a0, .string a1] rfl (by (try simp only [List.map_toArray, List.map_cons, List.map_nil]); first | done | rfl | (simp only [List.length_drop, List.length_take]; rfl)) ?_; (with_reducible refine (sealringref32_Content.calls kj5 a0 a1 t1177 t1178 _ A23.out).mono ?_); rintro e w51 ⟨v1179, rfl, ho0, hb⟩; refine ⟨_, rfl, ?_⟩; have n0_ := Aside0.mk (Kd.R_elder' (by (with_reducible repeat (first | apply Kd.R_alloc | apply Kd.R_drewN | apply Kd.R_drew)); exact HO1176.out) (Kd.R_base ho0) hb); have n1_ := Aside0.mk (Kd.R_lower (Kd.R_new' ho0 (Kd.R_lt (by (with_reducible repeat (first | apply Kd.R_alloc | apply Kd.R_drewN | apply Kd.R_drew)); exact HO1176.out))) (below_size (by repeat (first | (with_reducible first | exact HB.out | apply below_alloc | apply pw_below_drewN | apply below_drew1) | exact HB.out)))); have n2_ := Aside0.mk (below_step (by repeat (first | (with_reducible first | exact HB.out | apply below_alloc | apply pw_below_drewN | apply below_drew1) | exact HB.out)) hb); clear HO1176; clear HB; have HO1176 := n0_; have HO1180 := n1_; have HB := n2_; clear n0_ n1_ n2_; (try clear hb); (try clear hb2); (try clear hk); (try clear hi); (try clear ho0)) | ((with_reducible refine gate_callee (f := 57) rfl ?_); refine goesL_ (some 63) rfl rfl Try.func57 (by kernel_rfl) rfl #[.int .i64 a0, .string a1, .string a2] rfl (by (try simp only [List.map_toArray, List.map_cons, List.map_nil]); first | done | rfl | (simp only [List.length_drop, List.length_take]; rfl)) ?_; (with_reducible refine (keep_Inner.calls a0 a1 a2 t1181 t1182 _ A24.out).mono ?_); rintro e w52 ⟨v1183, rfl, ho0, hb⟩; refine ⟨_, rfl, ?_⟩; have n0_ := Aside0.mk (Kd.R_elder' (by (with_reducible repeat (first | apply Kd.R_alloc | apply Kd.R_drewN | apply Kd.R_drew)); exact HO1176.out) (Kd.R_base ho0) hb); have n1_ := Aside0.mk (Kd.R_elder' (by (with_reducible repeat (first | apply Kd.R_alloc | apply Kd.R_drewN | apply Kd.R_drew)); exact HO1180.out) (Kd.R_base ho0) hb); have n2_ := Aside0.mk (Kd.R_lower (Kd.R_new' (Kd.R_new' ho0 (Kd.R_lt (by (with_reducible repeat (first | apply Kd.R_alloc | apply Kd.R_drewN | apply Kd.R_drew)); exact HO1176.out))) (Kd.R_lt (by (with_reducible repeat (first | apply Kd.R_alloc | apply Kd.R_drewN | apply Kd.R_drew)); exact HO1180.out))) (below_size (by repeat (first | (with_reducible first | exact HB.out | apply below_alloc | apply pw_below_drewN | apply below_drew1) | exact HB.out)))); have n3_ := Aside0.mk (below_step (by repeat (first | (with_reducible first | exact HB.out | apply below_alloc | apply pw_below_drewN | apply below_drew1) | exact HB.out)) hb); clear HO1176; clear HO1180; clear HB; have HO1176 := n0_; have HO1180 := n1_; have HO1184 := n2_; have HB := n3_; clear n0_ n1_ n2_ n3_; (try clear hb); (try clear hb2); (try clear hk); (try clear hi); (try clear ho0)) | ((with_reducible refine gate_callee (f := 58) rfl ?_); refine goesL_ (some 70) rfl rfl Try.func58 (by kernel_rfl) rfl #[.int .i64 a0, .string a1, .string a2] rfl (by (try simp only [List.map_toArray, List.map_cons, List.map_nil]); first | done | rfl | (simp only [List.length_drop, List.length_take]; rfl)) ?_; (with_reducible refine (sealringref32_Inner.calls a0 a1 a2 t1185 t1186 _ A25.out).mono ?_); rintro e w53 ⟨v1187, rfl, ho0, hb⟩; refine ⟨_, rfl, ?_⟩; have n0_ := Aside0.mk (Kd.R_elder' (by (with_reducible repeat (first | apply Kd.R_alloc | apply Kd.R_drewN | apply Kd.R_drew)); exact HO1176.out) (Kd.R_base ho0) hb); have n1_ := Aside0.mk (Kd.R_elder' (by (with_reducible repeat (first | apply Kd.R_alloc | apply Kd.R_drewN | apply Kd.R_drew)); exact HO1180.out) (Kd.R_base ho0) hb); have n2_ := Aside0.mk (Kd.R_elder' (by (with_reducible repeat (first | apply Kd.R_alloc | apply Kd.R_drewN | apply Kd.R_drew)); exact HO1184.out) (Kd.R_base ho0) hb); have n3_ := Aside0.mk (Kd.R_lower (Kd.R_new' (Kd.R_new' (Kd.R_new' ho0 (Kd.R_lt (by (with_reducible repeat (first | apply Kd.R_alloc | apply Kd.R_drewN | apply Kd.R_drew)); exact HO1176.out))) (Kd.R_lt (by (with_reducible repeat (first | apply Kd.R_alloc | apply Kd.R_drewN | apply Kd.R_drew)); exact HO1180.out))) (Kd.R_lt (by (with_reducible repeat (first | apply Kd.R_alloc | apply Kd.R_drewN | apply Kd.R_drew)); exact HO1184.out))) (below_size (by repeat (first | (with_reducible first | exact HB.out | apply below_alloc | apply pw_below_drewN | apply below_drew1) | exact HB.out)))); have n4_ := Aside0.mk (below_step (by repeat (first | (with_reducible first | exact HB.out | apply below_alloc | apply pw_below_drewN | apply below_drew1) | exact HB.out)) hb); clear HO1176; clear HO1180; clear HO1184; clear HB; have HO1176 := n0_; have HO1180 := n1_; have HO1184 := n2_; have HO1188 := n3_; have HB := n4_; clear n0_ n1_ n2_ n3_ n4_; (try clear hb); (try clear hb2); (try clear hk); (try clear hi); (try clear ho0); obtain ⟨Ao54, co54, eo54⟩ := Kd.R_slice HO1176.out; subst eo54; obtain ⟨Ao55, co55, eo55⟩ := Kd.R_slice HO1180.out; subst eo55) | ((with_reducible refine gate_callee (f := 54) rfl ?_); refine goesL_ (some 75) rfl rfl Try.func54 (by kernel_rfl) rfl #[.slice Ao54 t1173.length co54, .slice Ao55 t1177.length co55] rfl (by (try simp only [List.map_toArray, List.map_cons, List.map_nil]); first | done | rfl | (simp only [List.length_drop, List.length_take]; rfl)) ?_; (with_reducible refine (sealringlaw32_same.calls kj5 _ _ t1173 _ _ t1177 true _ ?side1 ?side2 ?side3 ?side4 A26.out).mono ?_); (case side1 => repeat (first | exact (Kd.R_reads' HO1176.out).2.2 | (with_reducible refine Kd.C_alloc ?_ _) | (with_reducible refine Kd.C_drewN ?_ _) | (with_reducible refine Kd.C_drew ?_))); (case side2 => exact (Kd.R_reads' HO1176.out).2.1); (case side3 => repeat (first | exact (Kd.R_reads' HO1180.out).2.2 | (with_reducible refine Kd.C_alloc ?_ _) | (with_reducible refine Kd.C_drewN ?_ _) | (with_reducible refine Kd.C_drew ?_))); (case side4 => exact (Kd.R_reads' HO1180.out).2.1); rintro e w' ⟨rfl, ⟨nd, rfl⟩⟩; refine ⟨_, rfl, ?_⟩; obtain ⟨Ao56, co56, eo56⟩ := Kd.R_slice HO1184.out; subst eo56; obtain ⟨Ao57, co57, eo57⟩ := Kd.R_slice HO1188.out; subst eo57) | (go_at_call 54; (with_reducible refine (sealringlaw32_same.calls kj5 _ _ t1181 _ _ t1185 false _ ?side1 ?side2 ?side3 ?side4 A29.out).mono ?_); (case side1 => repeat (first | exact (Kd.R_reads' HO1184.out).2.2 | (with_reducible refine Kd.C_alloc ?_ _) | (with_reducible refine Kd.C_drewN ?_ _) | (with_reducible refine Kd.C_drew ?_))); (case side2 => exact (Kd.R_reads' HO1184.out).2.1); (case side3 => repeat (first | exact (Kd.R_reads' HO1188.out).2.2 | (with_reducible refine Kd.C_alloc ?_ _) | (with_reducible refine Kd.C_drewN ?_ _) | (with_reducible refine Kd.C_drew ?_))); (case side4 => exact (Kd.R_reads' HO1188.out).2.1); rintro e w' ⟨rfl, ⟨nd, rfl⟩⟩))
              go_ret
              exact ⟨by first | rfl | (simp [errW_none, errW_some] <;> rfl) | (simp [*, errW_none, errW_some] <;> rfl), by repeat (first | (with_reducible first | exact HB.out | apply below_alloc | apply pw_below_drewN | apply below_drew1) | exact HB.out)⟩
          · rw [if_neg c28] at H
            have c28b0 : (t1174 == t1178) = false := by simpa using c28
            (try (have c28b1 : decide (t1174 = t1178) = false := by simpa using c28))
            (try (have c28b2 : (t1174 == t1178) = false := by simpa using c28))
            (try (have c28b3 : ¬ (t1174 = t1178) := by simpa using c28))
            clear c28
            obtain rfl := Option.some.inj H
            go_wp2_with (first | ((with_reducible refine gate_callee (f := 55) rfl ?_); refine goesL_ (some 50) rfl rfl Try.func55 (by kernel_rfl) rfl #[.int .i64 a0, .string a1] rfl (by (try simp only [List.map_toArray, List.map_cons, List.map_nil]); first | done | rfl | (simp only [List.length_drop, List.length_take]; rfl)) ?_; (with_reducible refine (keep_Content.calls a0 a1 t1173 t1174 _ A22.out).mono ?_); rintro e w58 ⟨v1175, rfl, ho0, hb⟩; refine ⟨_, rfl, ?_⟩; have n0_ := Aside0.mk (Kd.R_lower ho0 (below_size (by repeat (first | (with_reducible first | exact HB.out | apply below_alloc | apply pw_below_drewN | apply below_drew1) | exact HB.out)))); have n1_ := Aside0.mk (below_step (by repeat (first | (with_reducible first | exact HB.out | apply below_alloc | apply pw_below_drewN | apply below_drew1) | exact HB.out)) hb); clear HB; have HO1176 := n0_; have HB := n1_; clear n0_ n1_; (try clear hb); (try clear hb2); (try clear hk); (try clear hi); (try clear ho0)) | ((with_reducible refine gate_callee (f := 56) rfl ?_); refine goesL_ (some 56) rfl rfl Try.func56 (by kernel_rfl) rfl #[.int .i64 a0, .string a1] rfl (by (try simp only [List.map_toArray, List.map_cons, List.map_nil]); first | done | rfl | (simp only [List.length_drop, List.length_take]; rfl)) ?_; (with_reducible refine (sealringref32_Content.calls kj5 a0 a1 t1177 t1178 _ A23.out).mono ?_); rintro e w59 ⟨v1179, rfl, ho0, hb⟩; refine ⟨_, rfl, ?_⟩; have n0_ := Aside0.mk (Kd.R_elder' (by (with_reducible repeat (first | apply Kd.R_alloc | apply Kd.R_drewN | apply Kd.R_drew)); exact HO1176.out) (Kd.R_base ho0) hb); have n1_ := Aside0.mk (Kd.R_lower (Kd.R_new' ho0 (Kd.R_lt (by (with_reducible repeat (first | apply Kd.R_alloc | apply Kd.R_drewN | apply Kd.R_drew)); exact HO1176.out))) (below_size (by repeat (first | (with_reducible first | exact HB.out | apply below_alloc | apply pw_below_drewN | apply below_drew1) | exact HB.out)))); have n2_ := Aside0.mk (below_step (by repeat (first | (with_reducible first | exact HB.out | apply below_alloc | apply pw_below_drewN | apply below_drew1) | exact HB.out)) hb); clear HO1176; clear HB; have HO1176 := n0_; have HO1180 := n1_; have HB := n2_; clear n0_ n1_ n2_; (try clear hb); (try clear hb2); (try clear hk); (try clear hi); (try clear ho0)) | ((with_reducible refine gate_callee (f := 57) rfl ?_); refine goesL_ (some 63) rfl rfl Try.func57 (by kernel_rfl) rfl #[.int .i64 a0, .string a1, .string a2] rfl (by (try simp only [List.map_toArray, List.map_cons, List.map_nil]); first | done | rfl | (simp only [List.length_drop, List.length_take]; rfl)) ?_; (with_reducible refine (keep_Inner.calls a0 a1 a2 t1181 t1182 _ A24.out).mono ?_); rintro e w60 ⟨v1183, rfl, ho0, hb⟩; refine ⟨_, rfl, ?_⟩; have n0_ := Aside0.mk (Kd.R_elder' (by (with_reducible repeat (first | apply Kd.R_alloc | apply Kd.R_drewN | apply Kd.R_drew)); exact HO1176.out) (Kd.R_base ho0) hb); have n1_ := Aside0.mk (Kd.R_elder' (by (with_reducible repeat (first | apply Kd.R_alloc | apply Kd.R_drewN | apply Kd.R_drew)); exact HO1180.out) (Kd.R_base ho0) hb); have n2_ := Aside0.mk (Kd.R_lower (Kd.R_new' (Kd.R_new' ho0 (Kd.R_lt (by (with_reducible repeat (first | apply Kd.R_alloc | apply Kd.R_drewN | apply Kd.R_drew)); exact HO1176.out))) (Kd.R_lt (by (with_reducible repeat (first | apply Kd.R_alloc | apply Kd.R_drewN | apply Kd.R_drew)); exact HO1180.out))) (below_size (by repeat (first | (with_reducible first | exact HB.out | apply below_alloc | apply pw_below_drewN | apply below_drew1) | exact HB.out)))); have n3_ := Aside0.mk (below_step (by repeat (first | (with_reducible first | exact HB.out | apply below_alloc | apply pw_below_drewN | apply below_drew1) | exact HB.out)) hb); clear HO1176; clear HO1180; clear HB; have HO1176 := n0_; have HO1180 := n1_; have HO1184 := n2_; have HB := n3_; clear n0_ n1_ n2_ n3_; (try clear hb); (try clear hb2); (try clear hk); (try clear hi); (try clear ho0)) | ((with_reducible refine gate_callee (f := 58) rfl ?_); refine goesL_ (some 70) rfl rfl Try.func58 (by kernel_rfl) rfl #[.int .i64 a0, .string a1, .string a2] rfl (by (try simp only [List.map_toArray, List.map_cons, List.map_nil]); first | done | rfl | (simp only [List.length_drop, List.length_take]; rfl)) ?_; (with_reducible refine (sealringref32_Inner.calls a0 a1 a2 t1185 t1186 _ A25.out).mono ?_); rintro e w61 ⟨v1187, rfl, ho0, hb⟩; refine ⟨_, rfl, ?_⟩; have n0_ := Aside0.mk (Kd.R_elder' (by (with_reducible repeat (first | apply Kd.R_alloc | apply Kd.R_drewN | apply Kd.R_drew)); exact HO1176.out) (Kd.R_base ho0) hb); have n1_ := Aside0.mk (Kd.R_elder' (by (with_reducible repeat (first | apply Kd.R_alloc | apply Kd.R_drewN | apply Kd.R_drew)); exact HO1180.out) (Kd.R_base ho0) hb); have n2_ := Aside0.mk (Kd.R_elder' (by (with_reducible repeat (first | apply Kd.R_alloc | apply Kd.R_drewN | apply Kd.R_drew)); exact HO1184.out) (Kd.R_base ho0) hb); have n3_ := Aside0.mk (Kd.R_lower (Kd.R_new' (Kd.R_new' (Kd.R_new' ho0 (Kd.R_lt (by (with_reducible repeat (first | apply Kd.R_alloc | apply Kd.R_drewN | apply Kd.R_drew)); exact HO1176.out))) (Kd.R_lt (by (with_reducible repeat (first | apply Kd.R_alloc | apply Kd.R_drewN | apply Kd.R_drew)); exact HO1180.out))) (Kd.R_lt (by (with_reducible repeat (first | apply Kd.R_alloc | apply Kd.R_drewN | apply Kd.R_drew)); exact HO1184.out))) (below_size (by repeat (first | (with_reducible first | exact HB.out | apply below_alloc | apply pw_below_drewN | apply below_drew1) | exact HB.out)))); have n4_ := Aside0.mk (below_step (by repeat (first | (with_reducible first | exact HB.out | apply below_alloc | apply pw_below_drewN | apply below_drew1) | exact HB.out)) hb); clear HO1176; clear HO1180; clear HO1184; clear HB; have HO1176 := n0_; have HO1180 := n1_; have HO1184 := n2_; have HO1188 := n3_; have HB := n4_; clear n0_ n1_ n2_ n3_ n4_; (try clear hb); (try clear hb2); (try clear hk); (try clear hi); (try clear ho0); obtain ⟨Ao62, co62, eo62⟩ := Kd.R_slice HO1176.out; subst eo62; obtain ⟨Ao63, co63, eo63⟩ := Kd.R_slice HO1180.out; subst eo63) | ((with_reducible refine gate_callee (f := 54) rfl ?_); refine goesL_ (some 75) rfl rfl Try.func54 (by kernel_rfl) rfl #[.slice Ao62 t1173.length co62, .slice Ao63 t1177.length co63] rfl (by (try simp only [List.map_toArray, List.map_cons, List.map_nil]); first | done | rfl | (simp only [List.length_drop, List.length_take]; rfl)) ?_; (with_reducible refine (sealringlaw32_same.calls kj5 _ _ t1173 _ _ t1177 true _ ?side1 ?side2 ?side3 ?side4 A26.out).mono ?_); (case side1 => repeat (first | exact (Kd.R_reads' HO1176.out).2.2 | (with_reducible refine Kd.C_alloc ?_ _) | (with_reducible refine Kd.C_drewN ?_ _) | (with_reducible refine Kd.C_drew ?_))); (case side2 => exact (Kd.R_reads' HO1176.out).2.1); (case side3 => repeat (first | exact (Kd.R_reads' HO1180.out).2.2 | (with_reducible refine Kd.C_alloc ?_ _) | (with_reducible refine Kd.C_drewN ?_ _) | (with_reducible refine Kd.C_drew ?_))); (case side4 => exact (Kd.R_reads' HO1180.out).2.1); rintro e w' ⟨rfl, ⟨nd, rfl⟩⟩; refine ⟨_, rfl, ?_⟩))
            go_ret
            exact ⟨by first | rfl | (simp [errW_none, errW_some] <;> rfl) | (simp [*, errW_none, errW_some] <;> rfl), by repeat (first | (with_reducible first | exact HB.out | apply below_alloc | apply pw_below_drewN | apply below_drew1) | exact HB.out)⟩
        · replace c27 := Bool.eq_false_iff.mpr c27
          subst c27
          have H1 : (some false) = some r := by rw [if_neg (show ¬ (false = true) by decide)] at H; exact H
          clear H
          have H := H1
          clear H1
          obtain rfl := Option.some.inj H
          go_wp2_with (first | ((with_reducible refine gate_callee (f := 55) rfl ?_); refine goesL_ (some 50) rfl rfl Try.func55 (by kernel_rfl) rfl #[.int .i64 a0, .string a1] rfl (by (try simp only [List.map_toArray, List.map_cons, List.map_nil]); first | done | rfl | (simp only [List.length_drop, List.length_take]; rfl)) ?_; (with_reducible refine (keep_Content.calls a0 a1 t1173 t1174 _ A22.out).mono ?_); rintro e w64 ⟨v1175, rfl, ho0, hb⟩; refine ⟨_, rfl, ?_⟩; have n0_ := Aside0.mk (Kd.R_lower ho0 (below_size (by repeat (first | (with_reducible first | exact HB.out | apply below_alloc | apply pw_below_drewN | apply below_drew1) | exact HB.out)))); have n1_ := Aside0.mk (below_step (by repeat (first | (with_reducible first | exact HB.out | apply below_alloc | apply pw_below_drewN | apply below_drew1) | exact HB.out)) hb); clear HB; have HO1176 := n0_; have HB := n1_; clear n0_ n1_; (try clear hb); (try clear hb2); (try clear hk); (try clear hi); (try clear ho0)) | ((with_reducible refine gate_callee (f := 56) rfl ?_); refine goesL_ (some 56) rfl rfl Try.func56 (by kernel_rfl) rfl #[.int .i64 a0, .string a1] rfl (by (try simp only [List.map_toArray, List.map_cons, List.map_nil]); first | done | rfl | (simp only [List.length_drop, List.length_take]; rfl)) ?_; (with_reducible refine (sealringref32_Content.calls kj5 a0 a1 t1177 t1178 _ A23.out).mono ?_); rintro e w65 ⟨v1179, rfl, ho0, hb⟩; refine ⟨_, rfl, ?_⟩; have n0_ := Aside0.mk (Kd.R_elder' (by (with_reducible repeat (first | apply Kd.R_alloc | apply Kd.R_drewN | apply Kd.R_drew)); exact HO1176.out) (Kd.R_base ho0) hb); have n1_ := Aside0.mk (Kd.R_lower (Kd.R_new' ho0 (Kd.R_lt (by (with_reducible repeat (first | apply Kd.R_alloc | apply Kd.R_drewN | apply Kd.R_drew)); exact HO1176.out))) (below_size (by repeat (first | (with_reducible first | exact HB.out | apply below_alloc | apply pw_below_drewN | apply below_drew1) | exact HB.out)))); have n2_ := Aside0.mk (below_step (by repeat (first | (with_reducible first | exact HB.out | apply below_alloc | apply pw_below_drewN | apply below_drew1) | exact HB.out)) hb); clear HO1176; clear HB; have HO1176 := n0_; have HO1180 := n1_; have HB := n2_; clear n0_ n1_ n2_; (try clear hb); (try clear hb2); (try clear hk); (try clear hi); (try clear ho0)) | ((with_reducible refine gate_callee (f := 57) rfl ?_); refine goesL_ (some 63) rfl rfl Try.func57 (by kernel_rfl) rfl #[.int .i64 a0, .string a1, .string a2] rfl (by (try simp only [List.map_toArray, List.map_cons, List.map_nil]); first | done | rfl | (simp only [List.length_drop, List.length_take]; rfl)) ?_; (with_reducible refine (keep_Inner.calls a0 a1 a2 t1181 t1182 _ A24.out).mono ?_); rintro e w66 ⟨v1183, rfl, ho0, hb⟩; refine ⟨_, rfl, ?_⟩; have n0_ := Aside0.mk (Kd.R_elder' (by (with_reducible repeat (first | apply Kd.R_alloc | apply Kd.R_drewN | apply Kd.R_drew)); exact HO1176.out) (Kd.R_base ho0) hb); have n1_ := Aside0.mk (Kd.R_elder' (by (with_reducible repeat (first | apply Kd.R_alloc | apply Kd.R_drewN | apply Kd.R_drew)); exact HO1180.out) (Kd.R_base ho0) hb); have n2_ := Aside0.mk (Kd.R_lower (Kd.R_new' (Kd.R_new' ho0 (Kd.R_lt (by (with_reducible repeat (first | apply Kd.R_alloc | apply Kd.R_drewN | apply Kd.R_drew)); exact HO1176.out))) (Kd.R_lt (by (with_reducible repeat (first | apply Kd.R_alloc | apply Kd.R_drewN | apply Kd.R_drew)); exact HO1180.out))) (below_size (by repeat (first | (with_reducible first | exact HB.out | apply below_alloc | apply pw_below_drewN | apply below_drew1) | exact HB.out)))); have n3_ := Aside0.mk (below_step (by repeat (first | (with_reducible first | exact HB.out | apply below_alloc | apply pw_below_drewN | apply below_drew1) | exact HB.out)) hb); clear HO1176; clear HO1180; clear HB; have HO1176 := n0_; have HO1180 := n1_; have HO1184 := n2_; have HB := n3_; clear n0_ n1_ n2_ n3_; (try clear hb); (try clear hb2); (try clear hk); (try clear hi); (try clear ho0)) | ((with_reducible refine gate_callee (f := 58) rfl ?_); refine goesL_ (some 70) rfl rfl Try.func58 (by kernel_rfl) rfl #[.int .i64 a0, .string a1, .string a2] rfl (by (try simp only [List.map_toArray, List.map_cons, List.map_nil]); first | done | rfl | (simp only [List.length_drop, List.length_take]; rfl)) ?_; (with_reducible refine (sealringref32_Inner.calls a0 a1 a2 t1185 t1186 _ A25.out).mono ?_); rintro e w67 ⟨v1187, rfl, ho0, hb⟩; refine ⟨_, rfl, ?_⟩; have n0_ := Aside0.mk (Kd.R_elder' (by (with_reducible repeat (first | apply Kd.R_alloc | apply Kd.R_drewN | apply Kd.R_drew)); exact HO1176.out) (Kd.R_base ho0) hb); have n1_ := Aside0.mk (Kd.R_elder' (by (with_reducible repeat (first | apply Kd.R_alloc | apply Kd.R_drewN | apply Kd.R_drew)); exact HO1180.out) (Kd.R_base ho0) hb); have n2_ := Aside0.mk (Kd.R_elder' (by (with_reducible repeat (first | apply Kd.R_alloc | apply Kd.R_drewN | apply Kd.R_drew)); exact HO1184.out) (Kd.R_base ho0) hb); have n3_ := Aside0.mk (Kd.R_lower (Kd.R_new' (Kd.R_new' (Kd.R_new' ho0 (Kd.R_lt (by (with_reducible repeat (first | apply Kd.R_alloc | apply Kd.R_drewN | apply Kd.R_drew)); exact HO1176.out))) (Kd.R_lt (by (with_reducible repeat (first | apply Kd.R_alloc | apply Kd.R_drewN | apply Kd.R_drew)); exact HO1180.out))) (Kd.R_lt (by (with_reducible repeat (first | apply Kd.R_alloc | apply Kd.R_drewN | apply Kd.R_drew)); exact HO1184.out))) (below_size (by repeat (first | (with_reducible first | exact HB.out | apply below_alloc | apply pw_below_drewN | apply below_drew1) | exact HB.out)))); have n4_ := Aside0.mk (below_step (by repeat (first | (with_reducible first | exact HB.out | apply below_alloc | apply pw_below_drewN | apply below_drew1) | exact HB.out)) hb); clear HO1176; clear HO1180; clear HO1184; clear HB; have HO1176 := n0_; have HO1180 := n1_; have HO1184 := n2_; have HO1188 := n3_; have HB := n4_; clear n0_ n1_ n2_ n3_ n4_; (try clear hb); (try clear hb2); (try clear hk); (try clear hi); (try clear ho0); obtain ⟨Ao68, co68, eo68⟩ := Kd.R_slice HO1176.out; subst eo68; obtain ⟨Ao69, co69, eo69⟩ := Kd.R_slice HO1180.out; subst eo69) | ((with_reducible refine gate_callee (f := 54) rfl ?_); refine goesL_ (some 75) rfl rfl Try.func54 (by kernel_rfl) rfl #[.slice Ao68 t1173.length co68, .slice Ao69 t1177.length co69] rfl (by (try simp only [List.map_toArray, List.map_cons, List.map_nil]); first | done | rfl | (simp only [List.length_drop, List.length_take]; rfl)) ?_; (with_reducible refine (sealringlaw32_same.calls kj5 _ _ t1173 _ _ t1177 false _ ?side1 ?side2 ?side3 ?side4 A26.out).mono ?_); (case side1 => repeat (first | exact (Kd.R_reads' HO1176.out).2.2 | (with_reducible refine Kd.C_alloc ?_ _) | (with_reducible refine Kd.C_drewN ?_ _) | (with_reducible refine Kd.C_drew ?_))); (case side2 => exact (Kd.R_reads' HO1176.out).2.1); (case side3 => repeat (first | exact (Kd.R_reads' HO1180.out).2.2 | (with_reducible refine Kd.C_alloc ?_ _) | (with_reducible refine Kd.C_drewN ?_ _) | (with_reducible refine Kd.C_drew ?_))); (case side4 => exact (Kd.R_reads' HO1180.out).2.1); rintro e w' ⟨rfl, ⟨nd, rfl⟩⟩; refine ⟨_, rfl, ?_⟩))
          go_ret
          exact ⟨by first | rfl | (simp [errW_none, errW_some] <;> rfl) | (simp [*, errW_none, errW_some] <;> rfl), by repeat (first | (with_reducible first | exact HB.out | apply below_alloc | apply pw_below_drewN | apply below_drew1) | exact HB.out)⟩
def sealringlaw32_KeepTells.Pure : Prop := ∀ (a0 : Int) (a1 : ByteArray) (a2 : ByteArray), (Lit.int .i64 a0).wf = true → a1.size ≤ 140737488351232 → a2.size ≤ 140737488351232 → ∃ k, sealringlaw32_KeepTells.f k a0 a1 a2 = some true
theorem sealringlaw32_KeepTells.walk (P : sealringlaw32_KeepTells.Pure) (a0 : Int) (a1 : ByteArray) (a2 : ByteArray) (w : World) (w0 : (Lit.int .i64 a0).wf = true) (w1 : a1.size ≤ 140737488351232) (w2 : a2.size ≤ 140737488351232) :
    Calls Try.prog 9 #[.int .i64 a0, .string a1, .string a2] w fun e w' => e = .returned (.bool true) ∧ Below w.heap.size w w' := by
  obtain ⟨k, h⟩ := P a0 a1 a2 w0 w1 w2
  refine (sealringlaw32_KeepTells.calls k a0 a1 a2 true w h).mono ?_
  rintro e w' ⟨rfl, hd⟩
  exact ⟨rfl, hd⟩
end Go.Proofs.Ytbnmcnghmnhigaa.X
end
section
namespace Go.Proofs.Ytbnmcnghmnhigaa.X
open Go.RowKit Go.Proofs.YtbnmcnghmnhigaaW.PrintWords Go.Proofs.YtbnmcnghmnhigaaW.PrintLast
set_option linter.unusedVariables false
set_option linter.unusedSimpArgs false
def insL (x : List UInt8) : List (List UInt8) → List (List UInt8)
  | [] => [x]
  | y :: ys => if x ≤ y then x :: y :: ys else y :: insL x ys
def isortL : List (List UInt8) → List (List UInt8)
  | [] => []
  | x :: xs => insL x (isortL xs)
theorem insL_perm (x : List UInt8) : ∀ l, (insL x l).Perm (x :: l)
  | [] => List.Perm.refl _
  | y :: ys => by
    unfold insL
    split
    · exact List.Perm.refl _
    · exact ((insL_perm x ys).cons y).trans (List.Perm.swap x y ys)
theorem isortL_perm : ∀ l, (isortL l).Perm l
  | [] => List.Perm.refl _
  | x :: xs => (insL_perm x _).trans ((isortL_perm xs).cons x)
theorem insL_pw (x : List UInt8) : ∀ l, l.Pairwise (· ≤ ·) → (insL x l).Pairwise (· ≤ ·)
  | [], _ => by simp [insL]
  | y :: ys, h => by
    rw [List.pairwise_cons] at h
    unfold insL
    split
    · rename_i hx
      refine List.pairwise_cons.2 ⟨fun z hz => ?_, List.pairwise_cons.2 h⟩
      rcases List.mem_cons.1 hz with rfl | hz
      · exact hx
      · exact List.le_trans hx (h.1 z hz)
    · rename_i hx
      refine List.pairwise_cons.2 ⟨fun z hz => ?_, insL_pw x ys h.2⟩
      rcases List.mem_cons.1 ((insL_perm x ys).mem_iff.1 hz) with rfl | hz
      · exact (List.le_total y z).resolve_right hx
      · exact h.1 z hz
theorem isortL_pw : ∀ l, (isortL l).Pairwise (· ≤ ·)
  | [] => List.Pairwise.nil
  | x :: xs => insL_pw x _ (isortL_pw xs)
theorem merge_isort (l : List (List UInt8)) : (l.mergeSort fun x y => decide (x ≤ y)) = isortL l := by
  refine List.Perm.eq_of_pairwise (le := (· ≤ ·)) (fun a b _ _ h1 h2 => List.le_antisymm h1 h2) ?_ (isortL_pw l) ((List.mergeSort_perm l _).trans (isortL_perm l).symm)
  have := List.pairwise_mergeSort (le := fun (x y : List UInt8) => decide (x ≤ y)) (fun a b c h1 h2 => by simp only [decide_eq_true_eq] at *; exact List.le_trans h1 h2) (fun a b => by simp only [Bool.or_eq_true, decide_eq_true_eq]; exact List.le_total a b) l
  exact this.imp (fun h => by simpa using h)
def isB (l : List ByteArray) : List ByteArray := (isortL (l.map (·.data.toList))).map fun b => ⟨b.toArray⟩
theorem sortB_is (l : List ByteArray) : sortB l = isB l := by unfold sortB isB; rw [merge_isort]
def keepF (a0 : Int) (a1 : ByteArray) : Option (List ByteArray × Bool) :=
  (version_Of.f a0).bind fun t => if t.2.2.2.2.2.2.2 = 0 then (if t.2.2.2.2.2.2.1 = true ∧ a1.data.toList = keepK1.data.toList then some ([], true) else some (isB (keepG t.2.2.2.1 t.2.2.2.2.1 t.2.2.2.2.2.1 t.2.2.2.2.2.2.1 a1.data.toList), false)) else some ([], false)
theorem content_is (a0 : Int) (a1 : ByteArray) (h : a1.size ≤ 140737488351232) : keep_Content.f a0 a1 = keepF a0 a1 := by
  unfold keep_Content.f keepF
  cases version_Of.f a0 with
  | none => rfl
  | some t =>
    simp only [Option.bind_some]
    by_cases c : t.2.2.2.2.2.2.2 = 0
    · rw [if_pos c, if_pos c, if_pos (by unfold maxLen; omega), sortB_is, Go.ByteArray.toList_eq]
      by_cases c1 : t.2.2.2.2.2.2.1 = true
      · rw [if_pos c1]
        by_cases c2 : a1.data.toList = keepK1.data.toList
        · rw [if_pos c2, if_pos ⟨c1, c2⟩]
        · rw [if_neg c2, if_neg (fun h => c2 h.2)]
      · rw [if_neg c1, if_neg (fun h => c1 h.1)]
    · rw [if_neg c, if_neg c]
def keepTF (a0 : Int) : Option (List ByteArray × Int) :=
  (version_Of.f a0).bind fun t => if t.2.2.2.2.2.2.2 = 0 then (if t.2.2.2.2.2.2.1 = true then some (keepT, 0) else some (isB (keepT ++ keepU), 0)) else some ([], t.2.2.2.2.2.2.2)
theorem top_is (a0 : Int) : keep_Top.f a0 = keepTF a0 := by unfold keep_Top.f keepTF; simp only [sortB_is]
def kinds : List ByteArray := [(⟨#[109, 46, 114, 111, 111, 109, 46, 109, 101, 109, 98, 101, 114]⟩ : ByteArray), (⟨#[109, 46, 114, 111, 111, 109, 46, 99, 114, 101, 97, 116, 101]⟩ : ByteArray), (⟨#[109, 46, 114, 111, 111, 109, 46, 106, 111, 105, 110, 95, 114, 117, 108, 101, 115]⟩ : ByteArray), (⟨#[109, 46, 114, 111, 111, 109, 46, 112, 111, 119, 101, 114, 95, 108, 101, 118, 101, 108, 115]⟩ : ByteArray), (⟨#[109, 46, 114, 111, 111, 109, 46, 104, 105, 115, 116, 111, 114, 121, 95, 118, 105, 115, 105, 98, 105, 108, 105, 116, 121]⟩ : ByteArray), (⟨#[109, 46, 114, 111, 111, 109, 46, 97, 108, 105, 97, 115, 101, 115]⟩ : ByteArray), (⟨#[109, 46, 114, 111, 111, 109, 46, 114, 101, 100, 97, 99, 116, 105, 111, 110]⟩ : ByteArray)]
def other (a1 : ByteArray) : Prop := ∀ x ∈ kinds, a1.data.toList ≠ x.data.toList
theorem kind_or (a1 : ByteArray) : (∃ i : Fin 7, a1 = kinds.getD i.val ⟨#[]⟩) ∨ other a1 := by
  by_cases h : a1 ∈ kinds
  · obtain ⟨i, hi, e⟩ := List.getElem_of_mem h
    refine .inl ⟨⟨i, hi⟩, ?_⟩
    rw [List.getD_eq_getElem?_getD, List.getElem?_eq_getElem hi]
    exact e.symm
  · refine .inr fun x hx e => h ?_
    have : a1 = x := by
      cases a1 with | mk a => cases x with | mk b => exact congrArg _ (Array.toList_inj.1 e)
    rw [this]
    exact hx
theorem keepG_other (r3 r4 r5 r6 : Bool) (a1 : ByteArray) (h : other a1) : keepG r3 r4 r5 r6 a1.data.toList = [] := by
  have n : ∀ (f : List UInt8 → List ByteArray) (x : ByteArray) (v : List ByteArray), x ∈ kinds → upd f x.data.toList v a1.data.toList = f a1.data.toList := fun f x v hx => upd_other f v (h x hx)
  have m : ∀ (f : List UInt8 → List ByteArray) (x v : ByteArray) (yes : Bool), x ∈ kinds → addG f x v yes a1.data.toList = f a1.data.toList := fun f x v yes hx => by
    unfold addG
    split
    · exact n _ _ _ hx
    · rfl
  unfold keepG
  rw [m _ _ _ _ (by simp [kinds]), m _ _ _ _ (by simp [kinds]), m _ _ _ _ (by simp [kinds]), m _ _ _ _ (by simp [kinds]), m _ _ _ _ (by simp [kinds]), m _ _ _ _ (by simp [kinds])]
  unfold keepG5; rw [n _ _ _ (by simp [kinds])]
  unfold keepG4; rw [n _ _ _ (by simp [kinds])]
  unfold keepG3; rw [n _ _ _ (by simp [kinds])]
  unfold keepG2; rw [n _ _ _ (by simp [kinds])]
  unfold keepG1; rw [n _ _ _ (by simp [kinds])]
theorem keepF_other (a0 : Int) (a1 : ByteArray) (h : other a1) : keepF a0 a1 = some ([], false) := by
  unfold keepF
  have : ∃ t, version_Of.f a0 = some t := by
    unfold version_Of.f
    split
    · exact ⟨_, rfl⟩
    · split <;> exact ⟨_, rfl⟩
  obtain ⟨t, ht⟩ := this
  rw [ht]
  simp only [Option.bind_some]
  have hk : ¬ (t.2.2.2.2.2.2.1 = true ∧ a1.data.toList = keepK1.data.toList) := fun c => h keepK1 (by simp [kinds]) c.2
  rw [if_neg hk, keepG_other _ _ _ _ _ h]
  split <;> rfl
theorem lives32 : sealringlaw32_lives.f = some true := by
  unfold sealringlaw32_lives.f
  rw [content_is _ _ (by decide), content_is _ _ (by decide)]
  kernel_rfl
end Go.Proofs.Ytbnmcnghmnhigaa.X
end
section
namespace Go.Proofs.Ytbnmcnghmnhigaa.Pure
open Go.RowKit Go.Proofs.Ytbnmcnghmnhigaa.X Go.Proofs.YtbnmcnghmnhigaaW.PrintWords Go.Proofs.YtbnmcnghmnhigaaW.PrintLast
set_option linter.unusedVariables false
set_option linter.unusedSimpArgs false
def growsG (k : Nat) (n m : Int) (a1 : ByteArray) : Option Bool := (keepF n a1).bind fun bt1192 => ((keepF m a1).bind fun bt1196 => ((keepTF n).bind fun bt1200 => ((keepTF m).bind fun bt1204 => (if bt1192.2 = true then (if bt1196.2 = true then (if (bt1204.1.length : Int) > (bt1200.1.length : Int) then (sealringlaw32_KeepGrows.j0 k a1 bt1192.1 bt1196.1 bt1196.2 bt1200.1 bt1204.1 true) else (sealringlaw32_KeepGrows.j0 k a1 bt1192.1 bt1196.1 bt1196.2 bt1200.1 bt1204.1 ((bt1204.1.length : Int) == 0))) else (sealringlaw32_KeepGrows.j0 k a1 bt1192.1 bt1196.1 bt1196.2 bt1200.1 bt1204.1 true)) else (if (bt1204.1.length : Int) > (bt1200.1.length : Int) then (sealringlaw32_KeepGrows.j0 k a1 bt1192.1 bt1196.1 bt1196.2 bt1200.1 bt1204.1 true) else (sealringlaw32_KeepGrows.j0 k a1 bt1192.1 bt1196.1 bt1196.2 bt1200.1 bt1204.1 ((bt1204.1.length : Int) == 0)))))))
theorem grows_is (k : Nat) (a0 : Int) (a1 : ByteArray) (h : a1.size ≤ 140737488351232) : sealringlaw32_KeepGrows.f k a0 a1 = growsG k (wrap64 (1 + (wrap64 (Int.tmod a0 10)))) (wrap64 ((wrap64 (1 + (wrap64 (Int.tmod a0 10)))) + 1)) a1 := by
  unfold sealringlaw32_KeepGrows.f growsG
  rw [content_is _ _ h, content_is _ _ h, top_is, top_is]
theorem g_all (c i : Nat) (hc : c < 10) (hi : i < 7) : growsG 500 (wrap64 (1 + wrap64 (c : Int))) (wrap64 (wrap64 (1 + wrap64 (c : Int)) + 1)) (kinds.getD i ⟨#[]⟩) = (sealringlaw32_lives.f).bind fun t => some t := by
  obtain rfl | rfl | rfl | rfl | rfl | rfl | rfl | rfl | rfl | rfl : c = 0 ∨ c = 1 ∨ c = 2 ∨ c = 3 ∨ c = 4 ∨ c = 5 ∨ c = 6 ∨ c = 7 ∨ c = 8 ∨ c = 9 := by omega
  all_goals
    obtain rfl | rfl | rfl | rfl | rfl | rfl | rfl : i = 0 ∨ i = 1 ∨ i = 2 ∨ i = 3 ∨ i = 4 ∨ i = 5 ∨ i = 6 := by omega
    all_goals kernel_rfl
def growsO (k : Nat) (n m : Int) (a1 : ByteArray) : Option Bool := (keepTF n).bind fun bt1200 => ((keepTF m).bind fun bt1204 => (if (bt1204.1.length : Int) > (bt1200.1.length : Int) then (sealringlaw32_KeepGrows.j0 k a1 [] [] false bt1200.1 bt1204.1 true) else (sealringlaw32_KeepGrows.j0 k a1 [] [] false bt1200.1 bt1204.1 ((bt1204.1.length : Int) == 0))))
def growsZ (n m : Int) : Option Bool := (keepTF n).bind fun x => ((keepTF m).bind fun y => (if (y.1.length : Int) > (x.1.length : Int) then some false else if ((y.1.length : Int) == 0) = true then some false else sealringlaw32_KeepGrows.l2 498 x.1 y.1 y.1 (y.1.length : Int) 0))
theorem z_all (c : Nat) (hc : c < 10) : growsZ (wrap64 (1 + wrap64 (c : Int))) (wrap64 (wrap64 (1 + wrap64 (c : Int)) + 1)) = (sealringlaw32_lives.f).bind fun t => some t := by
  obtain rfl | rfl | rfl | rfl | rfl | rfl | rfl | rfl | rfl | rfl : c = 0 ∨ c = 1 ∨ c = 2 ∨ c = 3 ∨ c = 4 ∨ c = 5 ∨ c = 6 ∨ c = 7 ∨ c = 8 ∨ c = 9 := by omega
  all_goals kernel_rfl
theorem o_is (n m : Int) (a1 : ByteArray) : growsO 500 n m a1 = growsZ n m := by
  unfold growsO growsZ
  cases keepTF n with
  | none => rfl
  | some x =>
    cases keepTF m with
    | none => rfl
    | some y =>
      simp only [Option.bind_some]
      by_cases c : (y.1.length : Int) > (x.1.length : Int)
      · rw [if_pos c, if_pos c, sealringlaw32_KeepGrows.j0, if_pos rfl]
      · rw [if_neg c, if_neg c]
        by_cases d : ((y.1.length : Int) == 0) = true
        · rw [if_pos d, d, sealringlaw32_KeepGrows.j0, if_pos rfl]
        · rw [if_neg d, sealringlaw32_KeepGrows.j0, if_neg d, sealringlaw32_KeepGrows.l0, if_neg (by decide)]
theorem o_all (a1 : ByteArray) (c : Nat) (hc : c < 10) : growsO 500 (wrap64 (1 + wrap64 (c : Int))) (wrap64 (wrap64 (1 + wrap64 (c : Int)) + 1)) a1 = (sealringlaw32_lives.f).bind fun t => some t := (o_is _ _ a1).trans (z_all c hc)
theorem G_other (k : Nat) (n m : Int) (a1 : ByteArray) (h1 : keepF n a1 = some ([], false)) (h2 : keepF m a1 = some ([], false)) : growsG k n m a1 = growsO k n m a1 := by
  unfold growsG growsO
  rw [h1, h2]
  rfl
theorem lives_b : ((sealringlaw32_lives.f).bind fun t => some t) = some true := by rw [lives32]; rfl
theorem KeepGrows : sealringlaw32_KeepGrows.Pure := by
  intro a0 a1 h0 h1
  have hw : 0 ≤ a0 ∧ a0 ≤ 255 := by simp [Lit.wf, IntKind.min, IntKind.max, IntKind.signed, IntKind.bits] at h0; omega
  obtain ⟨n, rfl⟩ := Int.eq_ofNat_of_zero_le hw.1
  refine ⟨500, ?_⟩
  rw [grows_is _ _ _ h1]
  have e : Int.tmod ((n : Nat) : Int) 10 = ((n % 10 : Nat) : Int) := by
    rw [Int.tmod_eq_emod_of_nonneg (by omega)]
    omega
  rw [e]
  have hc : n % 10 < 10 := Nat.mod_lt _ (by decide)
  generalize n % 10 = c at hc
  rcases kind_or a1 with ⟨j, rfl⟩ | ho
  · rw [g_all c j.val hc j.isLt, lives_b]
  · rw [G_other _ _ _ _ (keepF_other _ _ ho) (keepF_other _ _ ho), o_all a1 c hc, lives_b]
end Go.Proofs.Ytbnmcnghmnhigaa.Pure
end
section
-- printed by wip/tools/printx.py over the translation; Lean checks it
namespace Go.Proofs.Ytbnmcnghmnhigaa.keepGrows
open Go.ChangeShapes Go.WideShapes Go.ChangeAt Go.RowKit
open Go.ChangeMaps (open_string shut_string)
set_option linter.unusedVariables false
theorem own : ownKnob Try.prog.godebug = none := by kernel_rfl
set_option maxRecDepth 100000 in
theorem lifted (os : Os) (started : os.Started) (H : Type) (enc : TypeId × Value → H) :
    ReturnsInHanded {} Try.checked os 10 .any (Rows.keepGrowsSpec.pre6 enc Try.prog Try.f10 Rows.keepGrowsRow.domain false) (Rows.keepGrowsSpec.post enc Try.prog Try.f10 false true false false) := by
  refine returnsInHanded_of_change_sized (C := Try.checked) own started (by kernel_rfl) Try.func10
    (ChangeSpec.witness6 (enc := enc) (C := Try.checked) false ⟨#[], #[.int .u8 0, .string ByteArray.empty], []⟩ 8 (by kernel_rfl) (by kernel_rfl) (by kernel_rfl) (by kernel_rfl)) ?_
  intro W base args ds gs before hval0 hW hcnd hsz0 _
  have hsz : (DataW.weightsEach Try.prog (Try.f10.params.toList ++ Rows.keepGrowsSpec.plain.varTypes Try.prog) (ds ++ gs)).all (· ≤ reachBytes) = true := hsz0
  have hval : ∀ (j : Nat) t v, Try.f10.params[j]? = some t → args[j]? = some v → Value.okWide Try.prog W .any base t v := hval0
  have hW' := hW
  obtain ⟨p, q, hA0, hV, rfl, hfz, hnd⟩ := hW
  have hA : DataW.TrodAll enc Try.prog W 0 (fun _ => true) true Try.f10.params.toList args.toList ds p := hA0
  rw [Try.params10] at hA hval hsz
  obtain ⟨v0, vs0, d0, ds0, p0, q0, hargs, rfl, rfl, h0, r0⟩ := trodAll_cons hA
  obtain ⟨v1, vs1, d1, ds1, p1, q1, rfl, rfl, rfl, h1, r1⟩ := trodAll_cons r0
  obtain ⟨rfl, rfl, rfl⟩ := trodAll_nil r1
  obtain rfl : args = #[v0, v1] := by cases args; simp_all
  obtain ⟨rfl, rfl⟩ := trodVars_none hV
  obtain ⟨a0, rfl, rfl, rfl, w0⟩ := open_int Try.underlying5 (hval 0 5 v0 rfl rfl) h0
  obtain ⟨a1, rfl, rfl, rfl, y1⟩ := open_string Try.underlying9 (hval 1 9 v1 rfl rfl) h1
  have w1 : a1.size ≤ 140737488351232 := by
    have z := sized_string hsz (j := 1) (t := 9) rfl rfl
    rw [Array.length_toList] at z
    exact z
  clear hA0 hval0 hsz0 hsz
  refine (X.sealringlaw32_KeepGrows.walk Pure.KeepGrows a0 a1 W w0 w1).mono fun e W' ⟨he, bel⟩ => ?_
  subst he
  exact ⟨_, rfl, _, _, _, [], _, [], hW', trodAll_mk1 (shut_bool Try.underlying4 _), (trodAll_cons_mk (shut_int Try.underlying5 w0) (trodAll_cons_mk (shut_string Try.underlying9 y1) trodAll_mk0)), rfl, bel.frame _, fun h => by cases h⟩
theorem over : Rows.keepGrowsRow.holds Try.pinned (OpenSpec.ofChange Rows.keepGrowsSpec) :=
  OpenClaim.holds_of_wide 10 Try.f10 rfl rfl rfl rfl rfl rfl rfl ⟨rfl, rfl, rfl, rfl, rfl⟩ rfl rfl rfl rfl rfl (by kernel_rfl) Try.func10 (by kernel_rfl)
    (of_decide_eq_true (by kernel_rfl)) (by unfold Func.isWrapper; first | (rw [if_pos (by decide +kernel)]; kernel_rfl) | (rw [if_neg (by decide +kernel)]; exact ⟨rfl, rfl⟩))
    (fun os started H enc _ => lifted os started H enc)
theorem proved : Rows.KeepGrowsSaid := over
#print axioms proved
end Go.Proofs.Ytbnmcnghmnhigaa.keepGrows
namespace Go.Proofs.Ytbnmcnghmnhigaa
/-- The row, under a short name, for the claim. -/
theorem keepGrows_holds : Rows.KeepGrowsSaid := keepGrows.proved
end Go.Proofs.Ytbnmcnghmnhigaa
end
