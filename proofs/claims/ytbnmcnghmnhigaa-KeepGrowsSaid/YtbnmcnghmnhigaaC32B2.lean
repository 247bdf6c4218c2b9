import Derived.Test.YtbnmcnghmnhigaaC32B1
import Derived.Laws.Cover1
section
namespace Go.Proofs.Ytbnmcnghmnhigaa.X
open Go.RowKit Go.Proofs.YtbnmcnghmnhigaaW.PrintWords Go.Proofs.YtbnmcnghmnhigaaW.PrintLast Go.Proofs.YtbnmcnghmnhigaaW.PrintMore
attribute [local go_sem] Go.Instr.field Go.asAgg max2_int min2_int max_two min_two max_three min_three max_four min_four
set_option linter.unusedVariables false
set_option linter.unusedSimpArgs false
mutual
def sealringlaw32_KeepGrows.j0 : Nat → ByteArray → List ByteArray → List ByteArray → Bool → List ByteArray → List ByteArray → Bool → Option (Bool)
  | 0, _, _, _, _, _, _, _ => none
  | k + 1, x1, x6, x8, x9, x10, x12, x68 => if x68 = true then (some false) else (sealringlaw32_KeepGrows.l0 k x1 x8 x9 x10 x12 x6 (x6.length : Int) 0)
def sealringlaw32_KeepGrows.l0 : Nat → ByteArray → List ByteArray → Bool → List ByteArray → List ByteArray → List ByteArray → Int → Int → Option (Bool)
  | 0, _, _, _, _, _, _, _, _ => none
  | k + 1, x1, x8, x9, x10, x12, x69, x70, x71 => if x71 < x70 then (if 0 ≤ x71 then (if x71 < (x69.length : Int) then (if x9 = true then (sealringlaw32_KeepGrows.j2 k x1 x8 x9 x10 x12 (rdOf ByteArray.empty x69 x71) true x69 x70 x71) else (sealringlaw32_KeepGrows.j2 k x1 x8 x9 x10 x12 (rdOf ByteArray.empty x69 x71) (x1.toList == ([109, 46, 114, 111, 111, 109, 46, 97, 108, 105, 97, 115, 101, 115] : List UInt8)) x69 x70 x71)) else (none)) else (none)) else (sealringlaw32_KeepGrows.l2 k x10 x12 x12 (x12.length : Int) 0)
def sealringlaw32_KeepGrows.j2 : Nat → ByteArray → List ByteArray → Bool → List ByteArray → List ByteArray → ByteArray → Bool → List ByteArray → Int → Int → Option (Bool)
  | 0, _, _, _, _, _, _, _, _, _, _ => none
  | k + 1, x1, x8, x9, x10, x12, x15, x16, x69, x70, x71 => sealringlaw32_KeepGrows.l1 k x1 x8 x9 x10 x12 x15 x16 x69 x70 x71 x8 (x8.length : Int) 0
def sealringlaw32_KeepGrows.l1 : Nat → ByteArray → List ByteArray → Bool → List ByteArray → List ByteArray → ByteArray → Bool → List ByteArray → Int → Int → List ByteArray → Int → Int → Option (Bool)
  | 0, _, _, _, _, _, _, _, _, _, _, _, _, _ => none
  | k + 1, x1, x8, x9, x10, x12, x15, x16, x69, x70, x71, x80, x81, x82 => if x82 < x81 then (if 0 ≤ x82 then (if x82 < (x80.length : Int) then (if x16 = true then (sealringlaw32_KeepGrows.l1 k x1 x8 x9 x10 x12 x15 true x69 x70 x71 x80 x81 (wrap64 (x82 + 1))) else (sealringlaw32_KeepGrows.l1 k x1 x8 x9 x10 x12 x15 (x15.toList == (rdOf ByteArray.empty x80 x82).toList) x69 x70 x71 x80 x81 (wrap64 (x82 + 1)))) else (none)) else (none)) else (if x16 = true then (sealringlaw32_KeepGrows.l0 k x1 x8 x9 x10 x12 x69 x70 (wrap64 (x71 + 1))) else (some false))
def sealringlaw32_KeepGrows.l2 : Nat → List ByteArray → List ByteArray → List ByteArray → Int → Int → Option (Bool)
  | 0, _, _, _, _, _ => none
  | k + 1, x10, x12, x96, x97, x98 => if x98 < x97 then (if 0 ≤ x98 then (if x98 < (x96.length : Int) then (sealringlaw32_KeepGrows.l3 k x10 x12 x98 (rdOf ByteArray.empty x96 x98) false x96 x97 x98 x10 (x10.length : Int) 0) else (none)) else (none)) else ((sealringlaw32_lives.f).bind fun t1210 => (some t1210))
def sealringlaw32_KeepGrows.l3 : Nat → List ByteArray → List ByteArray → Int → ByteArray → Bool → List ByteArray → Int → Int → List ByteArray → Int → Int → Option (Bool)
  | 0, _, _, _, _, _, _, _, _, _, _, _ => none
  | k + 1, x10, x12, x19, x20, x21, x96, x97, x98, x103, x104, x105 => if x105 < x104 then (if 0 ≤ x105 then (if x105 < (x103.length : Int) then (if x21 = true then (sealringlaw32_KeepGrows.l3 k x10 x12 x19 x20 true x96 x97 x98 x103 x104 (wrap64 (x105 + 1))) else (sealringlaw32_KeepGrows.l3 k x10 x12 x19 x20 (x20.toList == (rdOf ByteArray.empty x103 x105).toList) x96 x97 x98 x103 x104 (wrap64 (x105 + 1)))) else (none)) else (none)) else (if x21 = true then (if x19 > 0 then (if 0 ≤ (wrap64 (x19 - 1)) then (if (wrap64 (x19 - 1)) < (x12.length : Int) then (if ((Op.bytesLess ((rdOf ByteArray.empty x12 (wrap64 (x19 - 1))).toList) x20.toList) = true) then (sealringlaw32_KeepGrows.l2 k x10 x12 x96 x97 (wrap64 (x98 + 1))) else (some false)) else (none)) else (none)) else (sealringlaw32_KeepGrows.l2 k x10 x12 x96 x97 (wrap64 (x98 + 1)))) else (some false))
end
def sealringlaw32_KeepGrows.f (k : Nat) (a0 : Int) (a1 : ByteArray) : Option (Bool) := (keep_Content.f (wrap64 (1 + (wrap64 (Int.tmod a0 10)))) a1).bind fun bt1192 => ((keep_Content.f (wrap64 ((wrap64 (1 + (wrap64 (Int.tmod a0 10)))) + 1)) a1).bind fun bt1196 => ((keep_Top.f (wrap64 (1 + (wrap64 (Int.tmod a0 10))))).bind fun bt1200 => ((keep_Top.f (wrap64 ((wrap64 (1 + (wrap64 (Int.tmod a0 10)))) + 1))).bind fun bt1204 => (if bt1192.2 = true then (if bt1196.2 = true then (if (bt1204.1.length : Int) > (bt1200.1.length : Int) then (sealringlaw32_KeepGrows.j0 k a1 bt1192.1 bt1196.1 bt1196.2 bt1200.1 bt1204.1 true) else (sealringlaw32_KeepGrows.j0 k a1 bt1192.1 bt1196.1 bt1196.2 bt1200.1 bt1204.1 ((bt1204.1.length : Int) == 0))) else (sealringlaw32_KeepGrows.j0 k a1 bt1192.1 bt1196.1 bt1196.2 bt1200.1 bt1204.1 true)) else (if (bt1204.1.length : Int) > (bt1200.1.length : Int) then (sealringlaw32_KeepGrows.j0 k a1 bt1192.1 bt1196.1 bt1196.2 bt1200.1 bt1204.1 true) else (sealringlaw32_KeepGrows.j0 k a1 bt1192.1 bt1196.1 bt1196.2 bt1200.1 bt1204.1 ((bt1204.1.length : Int) == 0)))))))
theorem sealringlaw32_KeepGrows.mono_l : ∀ k, (∀ y0 y1 y2 y3 y4 y5 y6, LeO (sealringlaw32_KeepGrows.j0 k y0 y1 y2 y3 y4 y5 y6) (sealringlaw32_KeepGrows.j0 (k + 1) y0 y1 y2 y3 y4 y5 y6)) ∧ (∀ y0 y1 y2 y3 y4 y5 y6 y7, LeO (sealringlaw32_KeepGrows.l0 k y0 y1 y2 y3 y4 y5 y6 y7) (sealringlaw32_KeepGrows.l0 (k + 1) y0 y1 y2 y3 y4 y5 y6 y7)) ∧ (∀ y0 y1 y2 y3 y4 y5 y6 y7 y8 y9, LeO (sealringlaw32_KeepGrows.j2 k y0 y1 y2 y3 y4 y5 y6 y7 y8 y9) (sealringlaw32_KeepGrows.j2 (k + 1) y0 y1 y2 y3 y4 y5 y6 y7 y8 y9)) ∧ (∀ y0 y1 y2 y3 y4 y5 y6 y7 y8 y9 y10 y11 y12, LeO (sealringlaw32_KeepGrows.l1 k y0 y1 y2 y3 y4 y5 y6 y7 y8 y9 y10 y11 y12) (sealringlaw32_KeepGrows.l1 (k + 1) y0 y1 y2 y3 y4 y5 y6 y7 y8 y9 y10 y11 y12)) ∧ (∀ y0 y1 y2 y3 y4, LeO (sealringlaw32_KeepGrows.l2 k y0 y1 y2 y3 y4) (sealringlaw32_KeepGrows.l2 (k + 1) y0 y1 y2 y3 y4)) ∧ (∀ y0 y1 y2 y3 y4 y5 y6 y7 y8 y9 y10, LeO (sealringlaw32_KeepGrows.l3 k y0 y1 y2 y3 y4 y5 y6 y7 y8 y9 y10) (sealringlaw32_KeepGrows.l3 (k + 1) y0 y1 y2 y3 y4 y5 y6 y7 y8 y9 y10))
  | 0 => ⟨fun _ _ _ _ _ _ _ r h => by simp [sealringlaw32_KeepGrows.j0] at h, fun _ _ _ _ _ _ _ _ r h => by simp [sealringlaw32_KeepGrows.l0] at h, fun _ _ _ _ _ _ _ _ _ _ r h => by simp [sealringlaw32_KeepGrows.j2] at h, fun _ _ _ _ _ _ _ _ _ _ _ _ _ r h => by simp [sealringlaw32_KeepGrows.l1] at h, fun _ _ _ _ _ r h => by simp [sealringlaw32_KeepGrows.l2] at h, fun _ _ _ _ _ _ _ _ _ _ _ r h => by simp [sealringlaw32_KeepGrows.l3] at h⟩
  | k + 1 => by
    obtain ⟨ih0, ih1, ih2, ih3, ih4, ih5⟩ := sealringlaw32_KeepGrows.mono_l k
    refine ⟨?_, ?_, ?_, ?_, ?_, ?_⟩
    · intro y0 y1 y2 y3 y4 y5 y6
      unfold sealringlaw32_KeepGrows.j0
      repeat' first
      | (with_reducible exact ih0 _ _ _ _ _ _ _)
      | (with_reducible exact ih1 _ _ _ _ _ _ _ _)
      | (with_reducible exact ih2 _ _ _ _ _ _ _ _ _ _)
      | (with_reducible exact ih3 _ _ _ _ _ _ _ _ _ _ _ _ _)
      | (with_reducible exact ih4 _ _ _ _ _)
      | (with_reducible exact ih5 _ _ _ _ _ _ _ _ _ _ _)
      | (with_reducible exact LeO.refl _)
      | (with_reducible exact LeO.none _)
      | (with_reducible refine LeO.ite ?_ ?_)
      | (with_reducible refine LeO.bind ?_ (fun _ => ?_))
      | exact ih0 _ _ _ _ _ _ _
      | exact ih1 _ _ _ _ _ _ _ _
      | exact ih2 _ _ _ _ _ _ _ _ _ _
      | exact ih3 _ _ _ _ _ _ _ _ _ _ _ _ _
      | exact ih4 _ _ _ _ _
      | exact ih5 _ _ _ _ _ _ _ _ _ _ _
      | exact LeO.none _
      | refine LeO.ite ?_ ?_
      | refine LeO.bind ?_ (fun _ => ?_)
    · intro y0 y1 y2 y3 y4 y5 y6 y7
      unfold sealringlaw32_KeepGrows.l0
      repeat' first
      | (with_reducible exact ih0 _ _ _ _ _ _ _)
      | (with_reducible exact ih1 _ _ _ _ _ _ _ _)
      | (with_reducible exact ih2 _ _ _ _ _ _ _ _ _ _)
      | (with_reducible exact ih3 _ _ _ _ _ _ _ _ _ _ _ _ _)
      | (with_reducible exact ih4 _ _ _ _ _)
      | (with_reducible exact ih5 _ _ _ _ _ _ _ _ _ _ _)
      | (with_reducible exact LeO.refl _)
      | (with_reducible exact LeO.none _)
      | (with_reducible refine LeO.ite ?_ ?_)
      | (with_reducible refine LeO.bind ?_ (fun _ => ?_))
      | exact ih0 _ _ _ _ _ _ _
      | exact ih1 _ _ _ _ _ _ _ _
      | exact ih2 _ _ _ _ _ _ _ _ _ _
      | exact ih3 _ _ _ _ _ _ _ _ _ _ _ _ _
      | exact ih4 _ _ _ _ _
      | exact ih5 _ _ _ _ _ _ _ _ _ _ _
      | exact LeO.none _
      | refine LeO.ite ?_ ?_
      | refine LeO.bind ?_ (fun _ => ?_)
    · intro y0 y1 y2 y3 y4 y5 y6 y7 y8 y9
      unfold sealringlaw32_KeepGrows.j2
      repeat' first
      | (with_reducible exact ih0 _ _ _ _ _ _ _)
      | (with_reducible exact ih1 _ _ _ _ _ _ _ _)
      | (with_reducible exact ih2 _ _ _ _ _ _ _ _ _ _)
      | (with_reducible exact ih3 _ _ _ _ _ _ _ _ _ _ _ _ _)
      | (with_reducible exact ih4 _ _ _ _ _)
      | (with_reducible exact ih5 _ _ _ _ _ _ _ _ _ _ _)
      | (with_reducible exact LeO.refl _)
      | (with_reducible exact LeO.none _)
      | (with_reducible refine LeO.ite ?_ ?_)
      | (with_reducible refine LeO.bind ?_ (fun _ => ?_))
      | exact ih0 _ _ _ _ _ _ _
      | exact ih1 _ _ _ _ _ _ _ _
      | exact ih2 _ _ _ _ _ _ _ _ _ _
      | exact ih3 _ _ _ _ _ _ _ _ _ _ _ _ _
      | exact ih4 _ _ _ _ _
      | exact ih5 _ _ _ _ _ _ _ _ _ _ _
      | exact LeO.none _
      | refine LeO.ite ?_ ?_
      | refine LeO.bind ?_ (fun _ => ?_)
    · intro y0 y1 y2 y3 y4 y5 y6 y7 y8 y9 y10 y11 y12
      unfold sealringlaw32_KeepGrows.l1
      repeat' first
      | (with_reducible exact ih0 _ _ _ _ _ _ _)
      | (with_reducible exact ih1 _ _ _ _ _ _ _ _)
      | (with_reducible exact ih2 _ _ _ _ _ _ _ _ _ _)
      | (with_reducible exact ih3 _ _ _ _ _ _ _ _ _ _ _ _ _)
      | (with_reducible exact ih4 _ _ _ _ _)
      | (with_reducible exact ih5 _ _ _ _ _ _ _ _ _ _ _)
      | (with_reducible exact LeO.refl _)
      | (with_reducible exact LeO.none _)
      | (with_reducible refine LeO.ite ?_ ?_)
      | (with_reducible refine LeO.bind ?_ (fun _ => ?_))
      | exact ih0 _ _ _ _ _ _ _
      | exact ih1 _ _ _ _ _ _ _ _
      | exact ih2 _ _ _ _ _ _ _ _ _ _
      | exact ih3 _ _ _ _ _ _ _ _ _ _ _ _ _
      | exact ih4 _ _ _ _ _
      | exact ih5 _ _ _ _ _ _ _ _ _ _ _
      | exact LeO.none _
      | refine LeO.ite ?_ ?_
      | refine LeO.bind ?_ (fun _ => ?_)
    · intro y0 y1 y2 y3 y4
      unfold sealringlaw32_KeepGrows.l2
      repeat' first
      | (with_reducible exact ih0 _ _ _ _ _ _ _)
      | (with_reducible exact ih1 _ _ _ _ _ _ _ _)
      | (with_reducible exact ih2 _ _ _ _ _ _ _ _ _ _)
      | (with_reducible exact ih3 _ _ _ _ _ _ _ _ _ _ _ _ _)
      | (with_reducible exact ih4 _ _ _ _ _)
      | (with_reducible exact ih5 _ _ _ _ _ _ _ _ _ _ _)
      | (with_reducible exact LeO.refl _)
      | (with_reducible exact LeO.none _)
      | (with_reducible refine LeO.ite ?_ ?_)
      | (with_reducible refine LeO.bind ?_ (fun _ => ?_))
      | exact ih0 _ _ _ _ _ _ _
      | exact ih1 _ _ _ _ _ _ _ _
      | exact ih2 _ _ _ _ _ _ _ _ _ _
      | exact ih3 _ _ _ _ _ _ _ _ _ _ _ _ _
      | exact ih4 _ _ _ _ _
      | exact ih5 _ _ _ _ _ _ _ _ _ _ _
      | exact LeO.none _
      | refine LeO.ite ?_ ?_
      | refine LeO.bind ?_ (fun _ => ?_)
    · intro y0 y1 y2 y3 y4 y5 y6 y7 y8 y9 y10
      unfold sealringlaw32_KeepGrows.l3
      repeat' first
      | (with_reducible exact ih0 _ _ _ _ _ _ _)
      | (with_reducible exact ih1 _ _ _ _ _ _ _ _)
      | (with_reducible exact ih2 _ _ _ _ _ _ _ _ _ _)
      | (with_reducible exact ih3 _ _ _ _ _ _ _ _ _ _ _ _ _)
      | (with_reducible exact ih4 _ _ _ _ _)
      | (with_reducible exact ih5 _ _ _ _ _ _ _ _ _ _ _)
      | (with_reducible exact LeO.refl _)
      | (with_reducible exact LeO.none _)
      | (with_reducible refine LeO.ite ?_ ?_)
      | (with_reducible refine LeO.bind ?_ (fun _ => ?_))
      | exact ih0 _ _ _ _ _ _ _
      | exact ih1 _ _ _ _ _ _ _ _
      | exact ih2 _ _ _ _ _ _ _ _ _ _
      | exact ih3 _ _ _ _ _ _ _ _ _ _ _ _ _
      | exact ih4 _ _ _ _ _
      | exact ih5 _ _ _ _ _ _ _ _ _ _ _
      | exact LeO.none _
      | refine LeO.ite ?_ ?_
      | refine LeO.bind ?_ (fun _ => ?_)
theorem sealringlaw32_KeepGrows.mono : ∀ a0 a1 k, LeO (sealringlaw32_KeepGrows.f k a0 a1) (sealringlaw32_KeepGrows.f (k + 1) a0 a1) := by
  intro a0 a1 k
  obtain ⟨ih0, ih1, ih2, ih3, ih4, ih5⟩ := sealringlaw32_KeepGrows.mono_l k
  unfold sealringlaw32_KeepGrows.f
  repeat' first
      | (with_reducible exact ih0 _ _ _ _ _ _ _)
      | (with_reducible exact ih1 _ _ _ _ _ _ _ _)
      | (with_reducible exact ih2 _ _ _ _ _ _ _ _ _ _)
      | (with_reducible exact ih3 _ _ _ _ _ _ _ _ _ _ _ _ _)
      | (with_reducible exact ih4 _ _ _ _ _)
      | (with_reducible exact ih5 _ _ _ _ _ _ _ _ _ _ _)
      | (with_reducible exact LeO.refl _)
      | (with_reducible exact LeO.none _)
      | (with_reducible refine LeO.ite ?_ ?_)
      | (with_reducible refine LeO.bind ?_ (fun _ => ?_))
      | exact ih0 _ _ _ _ _ _ _
      | exact ih1 _ _ _ _ _ _ _ _
      | exact ih2 _ _ _ _ _ _ _ _ _ _
      | exact ih3 _ _ _ _ _ _ _ _ _ _ _ _ _
      | exact ih4 _ _ _ _ _
      | exact ih5 _ _ _ _ _ _ _ _ _ _ _
      | exact LeO.none _
      | refine LeO.ite ?_ ?_
      | refine LeO.bind ?_ (fun _ => ?_)
set_option maxHeartbeats 8000000 in
set_option maxRecDepth 100000 in
theorem sealringlaw32_KeepGrows.calls (k : Nat) (a0 : Int) (a1 : ByteArray) (r : Bool) (w : World) (h : sealringlaw32_KeepGrows.f k a0 a1 = some r) :
    Calls Try.prog 10 #[.int .u8 a0, .string a1] w fun e w' => e = .returned (.bool r) ∧ Below w.heap.size w w' := by
  have HB := Aside0.mk (Below.refl w.heap.size w)
  have H : ((keep_Content.f (wrap64 (1 + (wrap64 (Int.tmod a0 10)))) a1).bind fun bt1192 => ((keep_Content.f (wrap64 ((wrap64 (1 + (wrap64 (Int.tmod a0 10)))) + 1)) a1).bind fun bt1196 => ((keep_Top.f (wrap64 (1 + (wrap64 (Int.tmod a0 10))))).bind fun bt1200 => ((keep_Top.f (wrap64 ((wrap64 (1 + (wrap64 (Int.tmod a0 10)))) + 1))).bind fun bt1204 => (if bt1192.2 = true then (if bt1196.2 = true then (if (bt1204.1.length : Int) > (bt1200.1.length : Int) then (sealringlaw32_KeepGrows.j0 k a1 bt1192.1 bt1196.1 bt1196.2 bt1200.1 bt1204.1 true) else (sealringlaw32_KeepGrows.j0 k a1 bt1192.1 bt1196.1 bt1196.2 bt1200.1 bt1204.1 ((bt1204.1.length : Int) == 0))) else (sealringlaw32_KeepGrows.j0 k a1 bt1192.1 bt1196.1 bt1196.2 bt1200.1 bt1204.1 true)) else (if (bt1204.1.length : Int) > (bt1200.1.length : Int) then (sealringlaw32_KeepGrows.j0 k a1 bt1192.1 bt1196.1 bt1196.2 bt1200.1 bt1204.1 true) else (sealringlaw32_KeepGrows.j0 k a1 bt1192.1 bt1196.1 bt1196.2 bt1200.1 bt1204.1 ((bt1204.1.length : Int) == 0)))))))) = some r := h
  clear h
  replace H := Option.bind_eq_some_iff.mp H
  obtain ⟨⟨t1192, t1193⟩, A30, H⟩ := H
  replace H : ((keep_Content.f (wrap64 ((wrap64 (1 + (wrap64 (Int.tmod a0 10)))) + 1)) a1).bind fun bt1196 => ((keep_Top.f (wrap64 (1 + (wrap64 (Int.tmod a0 10))))).bind fun bt1200 => ((keep_Top.f (wrap64 ((wrap64 (1 + (wrap64 (Int.tmod a0 10)))) + 1))).bind fun bt1204 => (if t1193 = true then (if bt1196.2 = true then (if (bt1204.1.length : Int) > (bt1200.1.length : Int) then (sealringlaw32_KeepGrows.j0 k a1 t1192 bt1196.1 bt1196.2 bt1200.1 bt1204.1 true) else (sealringlaw32_KeepGrows.j0 k a1 t1192 bt1196.1 bt1196.2 bt1200.1 bt1204.1 ((bt1204.1.length : Int) == 0))) else (sealringlaw32_KeepGrows.j0 k a1 t1192 bt1196.1 bt1196.2 bt1200.1 bt1204.1 true)) else (if (bt1204.1.length : Int) > (bt1200.1.length : Int) then (sealringlaw32_KeepGrows.j0 k a1 t1192 bt1196.1 bt1196.2 bt1200.1 bt1204.1 true) else (sealringlaw32_KeepGrows.j0 k a1 t1192 bt1196.1 bt1196.2 bt1200.1 bt1204.1 ((bt1204.1.length : Int) == 0))))))) = some r := H
  have A3 := Aside0.mk A30
  clear A30
  replace H := Option.bind_eq_some_iff.mp H
  obtain ⟨⟨t1196, t1197⟩, A40, H⟩ := H
  replace H : ((keep_Top.f (wrap64 (1 + (wrap64 (Int.tmod a0 10))))).bind fun bt1200 => ((keep_Top.f (wrap64 ((wrap64 (1 + (wrap64 (Int.tmod a0 10)))) + 1))).bind fun bt1204 => (if t1193 = true then (if t1197 = true then (if (bt1204.1.length : Int) > (bt1200.1.length : Int) then (sealringlaw32_KeepGrows.j0 k a1 t1192 t1196 t1197 bt1200.1 bt1204.1 true) else (sealringlaw32_KeepGrows.j0 k a1 t1192 t1196 t1197 bt1200.1 bt1204.1 ((bt1204.1.length : Int) == 0))) else (sealringlaw32_KeepGrows.j0 k a1 t1192 t1196 t1197 bt1200.1 bt1204.1 true)) else (if (bt1204.1.length : Int) > (bt1200.1.length : Int) then (sealringlaw32_KeepGrows.j0 k a1 t1192 t1196 t1197 bt1200.1 bt1204.1 true) else (sealringlaw32_KeepGrows.j0 k a1 t1192 t1196 t1197 bt1200.1 bt1204.1 ((bt1204.1.length : Int) == 0)))))) = some r := H
  have A4 := Aside0.mk A40
  clear A40
  replace H := Option.bind_eq_some_iff.mp H
  obtain ⟨⟨t1200, t1201⟩, A50, H⟩ := H
  replace H : ((keep_Top.f (wrap64 ((wrap64 (1 + (wrap64 (Int.tmod a0 10)))) + 1))).bind fun bt1204 => (if t1193 = true then (if t1197 = true then (if (bt1204.1.length : Int) > (t1200.length : Int) then (sealringlaw32_KeepGrows.j0 k a1 t1192 t1196 t1197 t1200 bt1204.1 true) else (sealringlaw32_KeepGrows.j0 k a1 t1192 t1196 t1197 t1200 bt1204.1 ((bt1204.1.length : Int) == 0))) else (sealringlaw32_KeepGrows.j0 k a1 t1192 t1196 t1197 t1200 bt1204.1 true)) else (if (bt1204.1.length : Int) > (t1200.length : Int) then (sealringlaw32_KeepGrows.j0 k a1 t1192 t1196 t1197 t1200 bt1204.1 true) else (sealringlaw32_KeepGrows.j0 k a1 t1192 t1196 t1197 t1200 bt1204.1 ((bt1204.1.length : Int) == 0))))) = some r := H
  have A5 := Aside0.mk A50
  clear A50
  replace H := Option.bind_eq_some_iff.mp H
  obtain ⟨⟨t1204, t1205⟩, A60, H⟩ := H
  replace H : (if t1193 = true then (if t1197 = true then (if (t1204.length : Int) > (t1200.length : Int) then (sealringlaw32_KeepGrows.j0 k a1 t1192 t1196 t1197 t1200 t1204 true) else (sealringlaw32_KeepGrows.j0 k a1 t1192 t1196 t1197 t1200 t1204 ((t1204.length : Int) == 0))) else (sealringlaw32_KeepGrows.j0 k a1 t1192 t1196 t1197 t1200 t1204 true)) else (if (t1204.length : Int) > (t1200.length : Int) then (sealringlaw32_KeepGrows.j0 k a1 t1192 t1196 t1197 t1200 t1204 true) else (sealringlaw32_KeepGrows.j0 k a1 t1192 t1196 t1197 t1200 t1204 ((t1204.length : Int) == 0)))) = some r := H
  have A6 := Aside0.mk A60
  clear A60
  have HC7 := Aside0.mk H
  clear H
  have hu29 := Try.underlying29
  go_enter Try.func10, Try.ntmps10
  go_upto_region 6 with (first | ((with_reducible refine gate_callee (f := 55) rfl ?_); refine goesL_ (some 31) rfl rfl Try.func55 (by kernel_rfl) rfl #[.int .i64 (wrap64 (1 + (wrap64 (Int.tmod a0 10)))), .string a1] rfl (by (try simp only [List.map_toArray, List.map_cons, List.map_nil]); first | done | rfl | (simp only [List.length_drop, List.length_take]; rfl)) ?_; (with_reducible refine (keep_Content.calls (wrap64 (1 + (wrap64 (Int.tmod a0 10)))) a1 t1192 t1193 _ A3.out).mono ?_); rintro e w8 ⟨v1194, rfl, ho0, hb⟩; refine ⟨_, rfl, ?_⟩; have n0_ := Aside0.mk (Kd.R_lower ho0 (below_size (by repeat (first | (with_reducible first | exact HB.out | apply below_alloc | apply pw_below_drewN | apply below_drew1) | exact HB.out)))); have n1_ := Aside0.mk (below_step (by repeat (first | (with_reducible first | exact HB.out | apply below_alloc | apply pw_below_drewN | apply below_drew1) | exact HB.out)) hb); clear HB; have HO1195 := n0_; have HB := n1_; clear n0_ n1_; (try clear hb); (try clear hb2); (try clear hk); (try clear hi); (try clear ho0)) | ((with_reducible refine gate_callee (f := 55) rfl ?_); refine goesL_ (some 38) rfl rfl Try.func55 (by kernel_rfl) rfl #[.int .i64 (wrap64 ((wrap64 (1 + (wrap64 (Int.tmod a0 10)))) + 1)), .string a1] rfl (by (try simp only [List.map_toArray, List.map_cons, List.map_nil]); first | done | rfl | (simp only [List.length_drop, List.length_take]; rfl)) ?_; (with_reducible refine (keep_Content.calls (wrap64 ((wrap64 (1 + (wrap64 (Int.tmod a0 10)))) + 1)) a1 t1196 t1197 _ A4.out).mono ?_); rintro e w9 ⟨v1198, rfl, ho0, hb⟩; refine ⟨_, rfl, ?_⟩; have n0_ := Aside0.mk (Kd.R_elder' (by (with_reducible repeat (first | apply Kd.R_alloc | apply Kd.R_drewN | apply Kd.R_drew)); exact HO1195.out) (Kd.R_base ho0) hb); have n1_ := Aside0.mk (Kd.R_lower (Kd.R_new' ho0 (Kd.R_lt (by (with_reducible repeat (first | apply Kd.R_alloc | apply Kd.R_drewN | apply Kd.R_drew)); exact HO1195.out))) (below_size (by repeat (first | (with_reducible first | exact HB.out | apply below_alloc | apply pw_below_drewN | apply below_drew1) | exact HB.out)))); have n2_ := Aside0.mk (below_step (by repeat (first | (with_reducible first | exact HB.out | apply below_alloc | apply pw_below_drewN | apply below_drew1) | exact HB.out)) hb); clear HO1195; clear HB; have HO1195 := n0_; have HO1199 := n1_; have HB := n2_; clear n0_ n1_ n2_; (try clear hb); (try clear hb2); (try clear hk); (try clear hi); (try clear ho0)) | ((with_reducible refine gate_callee (f := 52) rfl ?_); refine goesL_ (some 43) rfl rfl Try.func52 (by kernel_rfl) rfl #[.int .i64 (wrap64 (1 + (wrap64 (Int.tmod a0 10))))] rfl (by (try simp only [List.map_toArray, List.map_cons, List.map_nil]); first | done | rfl | (simp only [List.length_drop, List.length_take]; rfl)) ?_; (with_reducible refine (keep_Top.calls (wrap64 (1 + (wrap64 (Int.tmod a0 10)))) t1200 t1201 _ A5.out).mono ?_); rintro e w10 ⟨v1202, rfl, ho0, hb⟩; refine ⟨_, rfl, ?_⟩; have n0_ := Aside0.mk (Kd.R_elder' (by (with_reducible repeat (first | apply Kd.R_alloc | apply Kd.R_drewN | apply Kd.R_drew)); exact HO1195.out) (Kd.R_base ho0) hb); have n1_ := Aside0.mk (Kd.R_elder' (by (with_reducible repeat (first | apply Kd.R_alloc | apply Kd.R_drewN | apply Kd.R_drew)); exact HO1199.out) (Kd.R_base ho0) hb); have n2_ := Aside0.mk (Kd.R_lower (Kd.R_new' (Kd.R_new' ho0 (Kd.R_lt (by (with_reducible repeat (first | apply Kd.R_alloc | apply Kd.R_drewN | apply Kd.R_drew)); exact HO1195.out))) (Kd.R_lt (by (with_reducible repeat (first | apply Kd.R_alloc | apply Kd.R_drewN | apply Kd.R_drew)); exact HO1199.out))) (below_size (by repeat (first | (with_reducible first | exact HB.out | apply below_alloc | apply pw_below_drewN | apply below_drew1) | exact HB.out)))); have n3_ := Aside0.mk (below_step (by repeat (first | (with_reducible first | exact HB.out | apply below_alloc | apply pw_below_drewN | apply below_drew1) | exact HB.out)) hb); clear HO1195; clear HO1199; clear HB; have HO1195 := n0_; have HO1199 := n1_; have HO1203 := n2_; have HB := n3_; clear n0_ n1_ n2_ n3_; (try clear hb); (try clear hb2); (try clear hk); (try clear hi); (try clear ho0)) | ((with_reducible refine gate_callee (f := 52) rfl ?_); refine goesL_ (some 49) rfl rfl Try.func52 (by kernel_rfl) rfl #[.int .i64 (wrap64 ((wrap64 (1 + (wrap64 (Int.tmod a0 10)))) + 1))] rfl (by (try simp only [List.map_toArray, List.map_cons, List.map_nil]); first | done | rfl | (simp only [List.length_drop, List.length_take]; rfl)) ?_; (with_reducible refine (keep_Top.calls (wrap64 ((wrap64 (1 + (wrap64 (Int.tmod a0 10)))) + 1)) t1204 t1205 _ A6.out).mono ?_); rintro e w11 ⟨v1206, rfl, ho0, hb⟩; refine ⟨_, rfl, ?_⟩; have n0_ := Aside0.mk (Kd.R_elder' (by (with_reducible repeat (first | apply Kd.R_alloc | apply Kd.R_drewN | apply Kd.R_drew)); exact HO1195.out) (Kd.R_base ho0) hb); have n1_ := Aside0.mk (Kd.R_elder' (by (with_reducible repeat (first | apply Kd.R_alloc | apply Kd.R_drewN | apply Kd.R_drew)); exact HO1199.out) (Kd.R_base ho0) hb); have n2_ := Aside0.mk (Kd.R_elder' (by (with_reducible repeat (first | apply Kd.R_alloc | apply Kd.R_drewN | apply Kd.R_drew)); exact HO1203.out) (Kd.R_base ho0) hb); have n3_ := Aside0.mk (Kd.R_lower (Kd.R_new' (Kd.R_new' (Kd.R_new' ho0 (Kd.R_lt (by (with_reducible repeat (first | apply Kd.R_alloc | apply Kd.R_drewN | apply Kd.R_drew)); exact HO1195.out))) (Kd.R_lt (by (with_reducible repeat (first | apply Kd.R_alloc | apply Kd.R_drewN | apply Kd.R_drew)); exact HO1199.out))) (Kd.R_lt (by (with_reducible repeat (first | apply Kd.R_alloc | apply Kd.R_drewN | apply Kd.R_drew)); exact HO1203.out))) (below_size (by repeat (first | (with_reducible first | exact HB.out | apply below_alloc | apply pw_below_drewN | apply below_drew1) | exact HB.out)))); have n4_ := Aside0.mk (below_step (by repeat (first | (with_reducible first | exact HB.out | apply below_alloc | apply pw_below_drewN | apply below_drew1) | exact HB.out)) hb); clear HO1195; clear HO1199; clear HO1203; clear HB; have HO1195 := n0_; have HO1199 := n1_; have HO1203 := n2_; have HO1207 := n3_; have HB := n4_; clear n0_ n1_ n2_ n3_ n4_; (try clear hb); (try clear hb2); (try clear hk); (try clear hi); (try clear ho0)))
  (try simp only [Act.put, List.setIfInBounds_toArray, List.set_cons_zero, List.set_cons_succ])
  go_cut [68] (fun v68 wc => ∃ (kq : Nat) (x68_6 : Bool), v68 = .bool x68_6 ∧ Aside0 (sealringlaw32_KeepGrows.j0 kq a1 t1192 t1196 t1197 t1200 t1204 x68_6 = some r) ∧ Aside0 (kq ≤ k) ∧ Aside0 (Kd.R Kd.string 9 wc w.heap.size (fun k_ => some k_ ≠ (v1198 : Value).ownBlock ∧ some k_ ≠ (v1202 : Value).ownBlock ∧ some k_ ≠ (v1206 : Value).ownBlock) v1194 t1192) ∧ Aside0 (Kd.R Kd.string 9 wc w.heap.size (fun k_ => some k_ ≠ (v1194 : Value).ownBlock ∧ some k_ ≠ (v1202 : Value).ownBlock ∧ some k_ ≠ (v1206 : Value).ownBlock) v1198 t1196) ∧ Aside0 (Kd.R Kd.string 9 wc w.heap.size (fun k_ => some k_ ≠ (v1194 : Value).ownBlock ∧ some k_ ≠ (v1198 : Value).ownBlock ∧ some k_ ≠ (v1206 : Value).ownBlock) v1202 t1200) ∧ Aside0 (Kd.R Kd.string 9 wc w.heap.size (fun k_ => some k_ ≠ (v1194 : Value).ownBlock ∧ some k_ ≠ (v1198 : Value).ownBlock ∧ some k_ ≠ (v1202 : Value).ownBlock) v1206 t1204) ∧ Aside0 (Below w.heap.size w wc))
  case first =>
    have H := HC7.out
    clear HC7
    by_cases c12 : t1193 = true
    · subst c12
      have H1 : (if t1197 = true then (if (t1204.length : Int) > (t1200.length : Int) then (sealringlaw32_KeepGrows.j0 k a1 t1192 t1196 t1197 t1200 t1204 true) else (sealringlaw32_KeepGrows.j0 k a1 t1192 t1196 t1197 t1200 t1204 ((t1204.length : Int) == 0))) else (sealringlaw32_KeepGrows.j0 k a1 t1192 t1196 t1197 t1200 t1204 true)) = some r := by rw [if_pos rfl] at H; exact H
      clear H
      have H := H1
      clear H1
      by_cases c13 : t1197 = true
      · subst c13
        have H1 : (if (t1204.length : Int) > (t1200.length : Int) then (sealringlaw32_KeepGrows.j0 k a1 t1192 t1196 true t1200 t1204 true) else (sealringlaw32_KeepGrows.j0 k a1 t1192 t1196 true t1200 t1204 ((t1204.length : Int) == 0))) = some r := by rw [if_pos rfl] at H; exact H
        clear H
        have H := H1
        clear H1
        by_cases c14 : (t1204.length : Int) > (t1200.length : Int)
        · rw [if_pos c14] at H
          have c14b0 : decide ((t1200.length : Int) < (t1204.length : Int)) = true := decide_eq_true c14
          have c14b1 : decide (t1200.length < t1204.length) = true := decide_eq_true (Int.ofNat_lt.mp c14)
          clear c14
          (first | rw [c14b0] | (simp only [i64_w, i32_w]; rw [c14b0]) | skip)
          have H' := Aside0.mk H
          clear H
          obtain ⟨Ao15, co15, eo15⟩ := Kd.R_slice HO1207.out
          subst eo15
          obtain ⟨Ao16, co16, eo16⟩ := Kd.R_slice HO1203.out
          subst eo16
          go_wp2
          go_meet
          case rel => exact ⟨_, (true), (by first | rfl | (simp; done) | (simp [*]; done)), (by first | with_reducible exact H' | exact H' | (subst_vars; exact H')), ⟨by first | omega | exact Nat.le_refl _⟩, ⟨by (with_reducible repeat (first | apply Kd.R_alloc | apply Kd.R_drewN | apply Kd.R_drew)); exact Kd.R_mono HO1195.out (fun _ hk => ⟨hk.1.1.2, ⟨hk.1.2, hk.2⟩⟩)⟩, ⟨by (with_reducible repeat (first | apply Kd.R_alloc | apply Kd.R_drewN | apply Kd.R_drew)); exact Kd.R_mono HO1199.out (fun _ hk => ⟨hk.1.1.2, ⟨hk.1.2, hk.2⟩⟩)⟩, ⟨by (with_reducible repeat (first | apply Kd.R_alloc | apply Kd.R_drewN | apply Kd.R_drew)); exact Kd.R_mono HO1203.out (fun _ hk => ⟨hk.1.1.2, ⟨hk.1.2, hk.2⟩⟩)⟩, ⟨by (with_reducible repeat (first | apply Kd.R_alloc | apply Kd.R_drewN | apply Kd.R_drew)); exact Kd.R_mono HO1207.out (fun _ hk => ⟨hk.1.1.2, ⟨hk.1.2, hk.2⟩⟩)⟩, ⟨by repeat (first | (with_reducible first | exact HB.out | apply below_alloc | apply pw_below_drewN | apply below_drew1) | exact HB.out)⟩⟩
        · rw [if_neg c14] at H
          have c14b0 : decide ((t1200.length : Int) < (t1204.length : Int)) = false := decide_eq_false c14
          have c14b1 : decide (t1200.length < t1204.length) = false := decide_eq_false (fun h => c14 (Int.ofNat_lt.mpr h))
          clear c14
          (first | rw [c14b0] | (simp only [i64_w, i32_w]; rw [c14b0]) | skip)
          have H' := Aside0.mk H
          clear H
          obtain ⟨Ao17, co17, eo17⟩ := Kd.R_slice HO1207.out
          subst eo17
          obtain ⟨Ao18, co18, eo18⟩ := Kd.R_slice HO1203.out
          subst eo18
          go_wp2
          go_meet
          case rel => exact ⟨_, (((t1204.length : Int) == 0)), (by first | rfl | (simp; done) | (simp [*]; done)), (by first | with_reducible exact H' | exact H' | (subst_vars; exact H')), ⟨by first | omega | exact Nat.le_refl _⟩, ⟨by (with_reducible repeat (first | apply Kd.R_alloc | apply Kd.R_drewN | apply Kd.R_drew)); exact Kd.R_mono HO1195.out (fun _ hk => ⟨hk.1.1.2, ⟨hk.1.2, hk.2⟩⟩)⟩, ⟨by (with_reducible repeat (first | apply Kd.R_alloc | apply Kd.R_drewN | apply Kd.R_drew)); exact Kd.R_mono HO1199.out (fun _ hk => ⟨hk.1.1.2, ⟨hk.1.2, hk.2⟩⟩)⟩, ⟨by (with_reducible repeat (first | apply Kd.R_alloc | apply Kd.R_drewN | apply Kd.R_drew)); exact Kd.R_mono HO1203.out (fun _ hk => ⟨hk.1.1.2, ⟨hk.1.2, hk.2⟩⟩)⟩, ⟨by (with_reducible repeat (first | apply Kd.R_alloc | apply Kd.R_drewN | apply Kd.R_drew)); exact Kd.R_mono HO1207.out (fun _ hk => ⟨hk.1.1.2, ⟨hk.1.2, hk.2⟩⟩)⟩, ⟨by repeat (first | (with_reducible first | exact HB.out | apply below_alloc | apply pw_below_drewN | apply below_drew1) | exact HB.out)⟩⟩
      · replace c13 := Bool.eq_false_iff.mpr c13
        subst c13
        have H1 : (sealringlaw32_KeepGrows.j0 k a1 t1192 t1196 false t1200 t1204 true) = some r := by rw [if_neg (show ¬ (false = true) by decide)] at H; exact H
        clear H
        have H := H1
        clear H1
        have H' := Aside0.mk H
        clear H
        go_wp2
        go_meet
        case rel => exact ⟨_, (true), (by first | rfl | (simp; done) | (simp [*]; done)), (by first | with_reducible exact H' | exact H' | (subst_vars; exact H')), ⟨by first | omega | exact Nat.le_refl _⟩, ⟨by (with_reducible repeat (first | apply Kd.R_alloc | apply Kd.R_drewN | apply Kd.R_drew)); exact Kd.R_mono HO1195.out (fun _ hk => ⟨hk.1.1.2, ⟨hk.1.2, hk.2⟩⟩)⟩, ⟨by (with_reducible repeat (first | apply Kd.R_alloc | apply Kd.R_drewN | apply Kd.R_drew)); exact Kd.R_mono HO1199.out (fun _ hk => ⟨hk.1.1.2, ⟨hk.1.2, hk.2⟩⟩)⟩, ⟨by (with_reducible repeat (first | apply Kd.R_alloc | apply Kd.R_drewN | apply Kd.R_drew)); exact Kd.R_mono HO1203.out (fun _ hk => ⟨hk.1.1.2, ⟨hk.1.2, hk.2⟩⟩)⟩, ⟨by (with_reducible repeat (first | apply Kd.R_alloc | apply Kd.R_drewN | apply Kd.R_drew)); exact Kd.R_mono HO1207.out (fun _ hk => ⟨hk.1.1.2, ⟨hk.1.2, hk.2⟩⟩)⟩, ⟨by repeat (first | (with_reducible first | exact HB.out | apply below_alloc | apply pw_below_drewN | apply below_drew1) | exact HB.out)⟩⟩
    · replace c12 := Bool.eq_false_iff.mpr c12
      subst c12
      have H1 : (if (t1204.length : Int) > (t1200.length : Int) then (sealringlaw32_KeepGrows.j0 k a1 t1192 t1196 t1197 t1200 t1204 true) else (sealringlaw32_KeepGrows.j0 k a1 t1192 t1196 t1197 t1200 t1204 ((t1204.length : Int) == 0))) = some r := by rw [if_neg (show ¬ (false = true) by decide)] at H; exact H
      clear H
      have H := H1
      clear H1
      by_cases c19 : (t1204.length : Int) > (t1200.length : Int)
      · rw [if_pos c19] at H
        have c19b0 : decide ((t1200.length : Int) < (t1204.length : Int)) = true := decide_eq_true c19
        have c19b1 : decide (t1200.length < t1204.length) = true := decide_eq_true (Int.ofNat_lt.mp c19)
        clear c19
        have H' := Aside0.mk H
        clear H
        obtain ⟨Ao20, co20, eo20⟩ := Kd.R_slice HO1207.out
        subst eo20
        obtain ⟨Ao21, co21, eo21⟩ := Kd.R_slice HO1203.out
        subst eo21
        go_wp2
        go_meet
        case rel => exact ⟨_, (true), (by first | rfl | (simp; done) | (simp [*]; done)), (by first | with_reducible exact H' | exact H' | (subst_vars; exact H')), ⟨by first | omega | exact Nat.le_refl _⟩, ⟨by (with_reducible repeat (first | apply Kd.R_alloc | apply Kd.R_drewN | apply Kd.R_drew)); exact Kd.R_mono HO1195.out (fun _ hk => ⟨hk.1.1.2, ⟨hk.1.2, hk.2⟩⟩)⟩, ⟨by (with_reducible repeat (first | apply Kd.R_alloc | apply Kd.R_drewN | apply Kd.R_drew)); exact Kd.R_mono HO1199.out (fun _ hk => ⟨hk.1.1.2, ⟨hk.1.2, hk.2⟩⟩)⟩, ⟨by (with_reducible repeat (first | apply Kd.R_alloc | apply Kd.R_drewN | apply Kd.R_drew)); exact Kd.R_mono HO1203.out (fun _ hk => ⟨hk.1.1.2, ⟨hk.1.2, hk.2⟩⟩)⟩, ⟨by (with_reducible repeat (first | apply Kd.R_alloc | apply Kd.R_drewN | apply Kd.R_drew)); exact Kd.R_mono HO1207.out (fun _ hk => ⟨hk.1.1.2, ⟨hk.1.2, hk.2⟩⟩)⟩, ⟨by repeat (first | (with_reducible first | exact HB.out | apply below_alloc | apply pw_below_drewN | apply below_drew1) | exact HB.out)⟩⟩
      · rw [if_neg c19] at H
        have c19b0 : decide ((t1200.length : Int) < (t1204.length : Int)) = false := decide_eq_false c19
        have c19b1 : decide (t1200.length < t1204.length) = false := decide_eq_false (fun h => c19 (Int.ofNat_lt.mpr h))
        clear c19
        have H' := Aside0.mk H
        clear H
        obtain ⟨Ao22, co22, eo22⟩ := Kd.R_slice HO1207.out
        subst eo22
        obtain ⟨Ao23, co23, eo23⟩ := Kd.R_slice HO1203.out
        subst eo23
        go_wp2
        go_meet
        case rel => exact ⟨_, (((t1204.length : Int) == 0)), (by first | rfl | (simp; done) | (simp [*]; done)), (by first | with_reducible exact H' | exact H' | (subst_vars; exact H')), ⟨by first | omega | exact Nat.le_refl _⟩, ⟨by (with_reducible repeat (first | apply Kd.R_alloc | apply Kd.R_drewN | apply Kd.R_drew)); exact Kd.R_mono HO1195.out (fun _ hk => ⟨hk.1.1.2, ⟨hk.1.2, hk.2⟩⟩)⟩, ⟨by (with_reducible repeat (first | apply Kd.R_alloc | apply Kd.R_drewN | apply Kd.R_drew)); exact Kd.R_mono HO1199.out (fun _ hk => ⟨hk.1.1.2, ⟨hk.1.2, hk.2⟩⟩)⟩, ⟨by (with_reducible repeat (first | apply Kd.R_alloc | apply Kd.R_drewN | apply Kd.R_drew)); exact Kd.R_mono HO1203.out (fun _ hk => ⟨hk.1.1.2, ⟨hk.1.2, hk.2⟩⟩)⟩, ⟨by (with_reducible repeat (first | apply Kd.R_alloc | apply Kd.R_drewN | apply Kd.R_drew)); exact Kd.R_mono HO1207.out (fun _ hk => ⟨hk.1.1.2, ⟨hk.1.2, hk.2⟩⟩)⟩, ⟨by repeat (first | (with_reducible first | exact HB.out | apply below_alloc | apply pw_below_drewN | apply below_drew1) | exact HB.out)⟩⟩
  case rest =>
    clear HC7
    try clear c1
    try clear p2
    try clear c5
    try clear p6
    try clear c10
    try clear c12
    try clear c13
    try clear c14
    try clear c14b0
    try clear c14b1
    try clear c19
    try clear c19b0
    try clear c19b1
    obtain ⟨kq, x68_6, rfl, HA, HJ6, HO_6, HO_8, HO_10, HO_12, HB⟩ := hcut
    cases kq with
    | zero => exact absurd HA.out (by simp [sealringlaw32_KeepGrows.j0])
    | succ kj6 =>
      have H := HA.out
      clear HA
      simp only [sealringlaw32_KeepGrows.j0] at H
      by_cases c24 : x68_6 = true
      · subst c24
        have H1 : (some false) = some r := by rw [if_pos rfl] at H; exact H
        clear H
        have H := H1
        clear H1
        obtain rfl := Option.some.inj H
        go_wp2
        go_ret
        exact ⟨by first | rfl | (simp [errW_none, errW_some] <;> rfl) | (simp [*, errW_none, errW_some] <;> rfl), by repeat (first | (with_reducible first | exact HB.out | apply below_alloc | apply pw_below_drewN | apply below_drew1) | exact HB.out)⟩
      · replace c24 := Bool.eq_false_iff.mpr c24
        subst c24
        have H1 : (sealringlaw32_KeepGrows.l0 kj6 a1 t1196 t1197 t1200 t1204 t1192 (t1192.length : Int) 0) = some r := by rw [if_neg (show ¬ (false = true) by decide)] at H; exact H
        clear H
        have H := H1
        clear H1
        have H' := Aside0.mk H
        clear H
        obtain ⟨Ao25, co25, eo25⟩ := Kd.R_slice HO_6.out
        subst eo25
        go_wp2
        go_loopg [71] kj6 (fun kq v71 w' => ∃ (x71_2 : Int), v71 = .int .i64 x71_2 ∧ Aside0 (sealringlaw32_KeepGrows.l0 kq a1 t1196 t1197 t1200 t1204 t1192 (t1192.length : Int) x71_2 = some r) ∧ Aside0 (kq ≤ kj6) ∧ Aside0 (Kd.R Kd.string 9 w' w.heap.size (fun k_ => some k_ ≠ (v1202 : Value).ownBlock ∧ some k_ ≠ (v1206 : Value).ownBlock ∧ some k_ ≠ ((.slice Ao25 t1192.length co25) : Value).ownBlock) v1198 t1196) ∧ Aside0 (Kd.R Kd.string 9 w' w.heap.size (fun k_ => some k_ ≠ (v1198 : Value).ownBlock ∧ some k_ ≠ (v1206 : Value).ownBlock ∧ some k_ ≠ ((.slice Ao25 t1192.length co25) : Value).ownBlock) v1202 t1200) ∧ Aside0 (Kd.R Kd.string 9 w' w.heap.size (fun k_ => some k_ ≠ (v1198 : Value).ownBlock ∧ some k_ ≠ (v1202 : Value).ownBlock ∧ some k_ ≠ ((.slice Ao25 t1192.length co25) : Value).ownBlock) v1206 t1204) ∧ Aside0 (Kd.R Kd.string 9 w' w.heap.size (fun k_ => some k_ ≠ (v1198 : Value).ownBlock ∧ some k_ ≠ (v1202 : Value).ownBlock ∧ some k_ ≠ (v1206 : Value).ownBlock) (.slice Ao25 t1192.length co25) t1192) ∧ Aside0 (Below w.heap.size w w'))
        case atStart => exact ⟨(0), (by first | rfl | (simp; done) | (simp [*]; done)), (by first | with_reducible exact H' | exact H' | (subst_vars; exact H')), ⟨Nat.le_refl _⟩, ⟨by (with_reducible repeat (first | apply Kd.R_alloc | apply Kd.R_drewN | apply Kd.R_drew)); exact Kd.R_mono HO_8.out (fun _ hk => ⟨hk.2.1, ⟨hk.2.2, hk.1⟩⟩)⟩, ⟨by (with_reducible repeat (first | apply Kd.R_alloc | apply Kd.R_drewN | apply Kd.R_drew)); exact Kd.R_mono HO_10.out (fun _ hk => ⟨hk.2.1, ⟨hk.2.2, hk.1⟩⟩)⟩, ⟨by (with_reducible repeat (first | apply Kd.R_alloc | apply Kd.R_drewN | apply Kd.R_drew)); exact Kd.R_mono HO_12.out (fun _ hk => ⟨hk.2.1, ⟨hk.2.2, hk.1⟩⟩)⟩, ⟨by (with_reducible repeat (first | apply Kd.R_alloc | apply Kd.R_drewN | apply Kd.R_drew)); exact HO_6.out⟩, ⟨by repeat (first | (with_reducible first | exact HB.out | apply below_alloc | apply pw_below_drewN | apply below_drew1) | exact HB.out)⟩⟩
        case round =>
          clear H'
          try clear c1
          try clear c2
          try clear p2
          try clear c5
          try clear p6
          try clear c10
          try clear c12
          try clear c13
          try clear c14
          try clear c14b0
          try clear c14b1
          try clear c19
          try clear c19b0
          try clear c19b1
          try clear c24
          try clear p2
          try clear p6
          obtain ⟨x71_2, rfl, HA, HK2, HO_8, HO_10, HO_12, HO_69, HB⟩ := hrel
          cases gk with
          | zero => exact absurd HA.out (by simp [sealringlaw32_KeepGrows.l0])
          | succ k2 =>
            have H := HA.out
            clear HA
            simp only [sealringlaw32_KeepGrows.l0] at H
            by_cases c26 : x71_2 < (t1192.length : Int)
            · rw [if_pos c26] at H
              have c26b0 : decide (x71_2 < (t1192.length : Int)) = true := decide_eq_true c26
              clear c26
              by_cases c27 : 0 ≤ x71_2
              · rw [if_pos c27] at H
                have c27b0 : decide (0 ≤ x71_2) = true := decide_eq_true c27
                clear c27
                by_cases c28 : x71_2 < (t1192.length : Int)
                · rw [if_pos c28] at H
                  have c28b0 : decide (x71_2 < (t1192.length : Int)) = true := decide_eq_true c28
                  clear c28
                  have HC29 := Aside0.mk H
                  clear H
                  have p1208 : 0 ≤ (x71_2 : Int) := of_decide_eq_true (by first | (with_reducible assumption) | assumption)
                  have q1208 : x71_2 < (t1192.length : Int) := of_decide_eq_true (by first | (with_reducible assumption) | assumption)
                  obtain ⟨ad1208, e1208, hx1208_0⟩ := Kd.at_string (Kd.R_reads' HO_69.out).2.2 x71_2 p1208 q1208
                  cases e1208
                  replace p1208 := eq_true p1208
                  replace q1208 := eq_true q1208
                  go_upto_region 11 with (fail)
                  go_cut [16] (fun v16 wc => ∃ (kq : Nat) (x16_28 : Bool), v16 = .bool x16_28 ∧ Aside0 (sealringlaw32_KeepGrows.j2 kq a1 t1196 t1197 t1200 t1204 (rdOf ByteArray.empty t1192 x71_2) x16_28 t1192 (t1192.length : Int) x71_2 = some r) ∧ Aside0 (kq ≤ k2) ∧ Aside0 (Kd.R Kd.string 9 wc w.heap.size (fun k_ => some k_ ≠ (v1202 : Value).ownBlock ∧ some k_ ≠ (v1206 : Value).ownBlock ∧ some k_ ≠ ((.slice (some ad1208) t1192.length co25) : Value).ownBlock) v1198 t1196) ∧ Aside0 (Kd.R Kd.string 9 wc w.heap.size (fun k_ => some k_ ≠ (v1198 : Value).ownBlock ∧ some k_ ≠ (v1206 : Value).ownBlock ∧ some k_ ≠ ((.slice (some ad1208) t1192.length co25) : Value).ownBlock) v1202 t1200) ∧ Aside0 (Kd.R Kd.string 9 wc w.heap.size (fun k_ => some k_ ≠ (v1198 : Value).ownBlock ∧ some k_ ≠ (v1202 : Value).ownBlock ∧ some k_ ≠ ((.slice (some ad1208) t1192.length co25) : Value).ownBlock) v1206 t1204) ∧ Aside0 (Kd.R Kd.string 9 wc w.heap.size (fun k_ => some k_ ≠ (v1198 : Value).ownBlock ∧ some k_ ≠ (v1202 : Value).ownBlock ∧ some k_ ≠ (v1206 : Value).ownBlock) (.slice (some ad1208) t1192.length co25) t1192) ∧ Aside0 (Below w.heap.size w wc))
                  case first =>
                    have H := HC29.out
                    clear HC29
                    by_cases c30 : t1197 = true
                    · subst c30
                      have H1 : (sealringlaw32_KeepGrows.j2 k2 a1 t1196 true t1200 t1204 (rdOf ByteArray.empty t1192 x71_2) true t1192 (t1192.length : Int) x71_2) = some r := by rw [if_pos rfl] at H; exact H
                      clear H
                      have H := H1
                      clear H1
                      have H' := Aside0.mk H
                      clear H
                      go_wp2
                      go_meet
                      case rel => exact ⟨_, (true), (by first | rfl | (simp; done) | (simp [*]; done)), (by first | with_reducible exact H' | exact H' | (subst_vars; exact H')), ⟨by have := HJ6.out; have := HK2.out; first | omega | exact Nat.le_refl _⟩, ⟨by (with_reducible repeat (first | apply Kd.R_alloc | apply Kd.R_drewN | apply Kd.R_drew)); exact HO_8.out⟩, ⟨by (with_reducible repeat (first | apply Kd.R_alloc | apply Kd.R_drewN | apply Kd.R_drew)); exact HO_10.out⟩, ⟨by (with_reducible repeat (first | apply Kd.R_alloc | apply Kd.R_drewN | apply Kd.R_drew)); exact HO_12.out⟩, ⟨by (with_reducible repeat (first | apply Kd.R_alloc | apply Kd.R_drewN | apply Kd.R_drew)); exact HO_69.out⟩, ⟨by repeat (first | (with_reducible first | exact HB.out | apply below_alloc | apply pw_below_drewN | apply below_drew1) | exact HB.out)⟩⟩
                    · replace c30 := Bool.eq_false_iff.mpr c30
                      subst c30
                      have H1 : (sealringlaw32_KeepGrows.j2 k2 a1 t1196 false t1200 t1204 (rdOf ByteArray.empty t1192 x71_2) (a1.toList == ([109, 46, 114, 111, 111, 109, 46, 97, 108, 105, 97, 115, 101, 115] : List UInt8)) t1192 (t1192.length : Int) x71_2) = some r := by rw [if_neg (show ¬ (false = true) by decide)] at H; exact H
                      clear H
                      have H := H1
                      clear H1
                      have H' := Aside0.mk H
                      clear H
                      go_wp2
                      go_meet
                      case rel => exact ⟨_, ((a1.toList == ([109, 46, 114, 111, 111, 109, 46, 97, 108, 105, 97, 115, 101, 115] : List UInt8))), (by first | rfl | (simp; done) | (simp [*]; done)), (by first | with_reducible exact H' | exact H' | (subst_vars; exact H')), ⟨by have := HJ6.out; have := HK2.out; first | omega | exact Nat.le_refl _⟩, ⟨by (with_reducible repeat (first | apply Kd.R_alloc | apply Kd.R_drewN | apply Kd.R_drew)); exact HO_8.out⟩, ⟨by (with_reducible repeat (first | apply Kd.R_alloc | apply Kd.R_drewN | apply Kd.R_drew)); exact HO_10.out⟩, ⟨by (with_reducible repeat (first | apply Kd.R_alloc | apply Kd.R_drewN | apply Kd.R_drew)); exact HO_12.out⟩, ⟨by (with_reducible repeat (first | apply Kd.R_alloc | apply Kd.R_drewN | apply Kd.R_drew)); exact HO_69.out⟩, ⟨by repeat (first | (with_reducible first | exact HB.out | apply below_alloc | apply pw_below_drewN | apply below_drew1) | exact HB.out)⟩⟩
                  case rest =>
                    clear HC29
                    try clear c1
                    try clear p1
                    try clear q1
                    try clear hx1
                    try clear c2
                    try clear p2
                    try clear c3
                    try clear c5
                    try clear p6
                    try clear c10
                    try clear c12
                    try clear p12
                    try clear q12
                    try clear hx12
                    try clear c13
                    try clear c14
                    try clear c14b0
                    try clear c14b1
                    try clear c19
                    try clear c19b0
                    try clear c19b1
                    try clear c24
                    try clear c26
                    try clear c26b0
                    try clear c27
                    try clear c27b0
                    try clear c28
                    try clear c28b0
                    try clear c30
                    try clear hx1208_0
                    try clear p1208
                    try clear p2
                    try clear p6
                    try clear q1208
                    obtain ⟨kq, x16_28, rfl, HA, HJ28, HO_8, HO_10, HO_12, HO_69, HB⟩ := hcut
                    cases kq with
                    | zero => exact absurd HA.out (by simp [sealringlaw32_KeepGrows.j2])
                    | succ kj28 =>
                      have H := HA.out
                      clear HA
                      simp only [sealringlaw32_KeepGrows.j2] at H
                      have H' := Aside0.mk H
                      clear H
                      obtain ⟨Ao31, co31, eo31⟩ := Kd.R_slice HO_8.out
                      subst eo31
                      go_wp2
                      go_loopg [16, 82] kj28 (fun kq v16 v82 w' => ∃ (x16_4 : Bool) (x82_4 : Int), v16 = .bool x16_4 ∧ v82 = .int .i64 x82_4 ∧ Aside0 (sealringlaw32_KeepGrows.l1 kq a1 t1196 t1197 t1200 t1204 (rdOf ByteArray.empty t1192 x71_2) x16_4 t1192 (t1192.length : Int) x71_2 t1196 (t1196.length : Int) x82_4 = some r) ∧ Aside0 (kq ≤ kj28) ∧ Aside0 (Kd.R Kd.string 9 w' w.heap.size (fun k_ => some k_ ≠ (v1202 : Value).ownBlock ∧ some k_ ≠ (v1206 : Value).ownBlock ∧ some k_ ≠ ((.slice (some ad1208) t1192.length co25) : Value).ownBlock) (.slice Ao31 t1196.length co31) t1196) ∧ Aside0 (Kd.R Kd.string 9 w' w.heap.size (fun k_ => some k_ ≠ ((.slice Ao31 t1196.length co31) : Value).ownBlock ∧ some k_ ≠ (v1206 : Value).ownBlock ∧ some k_ ≠ ((.slice (some ad1208) t1192.length co25) : Value).ownBlock ∧ some k_ ≠ ((.slice Ao31 t1196.length co31) : Value).ownBlock) v1202 t1200) ∧ Aside0 (Kd.R Kd.string 9 w' w.heap.size (fun k_ => some k_ ≠ ((.slice Ao31 t1196.length co31) : Value).ownBlock ∧ some k_ ≠ (v1202 : Value).ownBlock ∧ some k_ ≠ ((.slice (some ad1208) t1192.length co25) : Value).ownBlock ∧ some k_ ≠ ((.slice Ao31 t1196.length co31) : Value).ownBlock) v1206 t1204) ∧ Aside0 (Kd.R Kd.string 9 w' w.heap.size (fun k_ => some k_ ≠ ((.slice Ao31 t1196.length co31) : Value).ownBlock ∧ some k_ ≠ (v1202 : Value).ownBlock ∧ some k_ ≠ (v1206 : Value).ownBlock ∧ some k_ ≠ ((.slice Ao31 t1196.length co31) : Value).ownBlock) (.slice (some ad1208) t1192.length co25) t1192) ∧ Aside0 (Kd.R Kd.string 9 w' w.heap.size (fun k_ => some k_ ≠ (v1202 : Value).ownBlock ∧ some k_ ≠ (v1206 : Value).ownBlock ∧ some k_ ≠ ((.slice (some ad1208) t1192.length co25) : Value).ownBlock) (.slice Ao31 t1196.length co31) t1196) ∧ Aside0 (Below w.heap.size w w'))
                      case atStart => exact ⟨(x16_28), (0), (by first | rfl | (simp; done) | (simp [*]; done)), (by first | rfl | (simp; done) | (simp [*]; done)), (by first | with_reducible exact H' | exact H' | (subst_vars; exact H')), ⟨Nat.le_refl _⟩, ⟨by (with_reducible repeat (first | apply Kd.R_alloc | apply Kd.R_drewN | apply Kd.R_drew)); exact HO_8.out⟩, ⟨by (with_reducible repeat (first | apply Kd.R_alloc | apply Kd.R_drewN | apply Kd.R_drew)); exact Kd.R_mono HO_10.out (fun _ hk => ⟨hk.1, ⟨hk.2.1, ⟨hk.2.2, hk.1⟩⟩⟩)⟩, ⟨by (with_reducible repeat (first | apply Kd.R_alloc | apply Kd.R_drewN | apply Kd.R_drew)); exact Kd.R_mono HO_12.out (fun _ hk => ⟨hk.1, ⟨hk.2.1, ⟨hk.2.2, hk.1⟩⟩⟩)⟩, ⟨by (with_reducible repeat (first | apply Kd.R_alloc | apply Kd.R_drewN | apply Kd.R_drew)); exact Kd.R_mono HO_69.out (fun _ hk => ⟨hk.1, ⟨hk.2.1, ⟨hk.2.2, hk.1⟩⟩⟩)⟩, ⟨by (with_reducible repeat (first | apply Kd.R_alloc | apply Kd.R_drewN | apply Kd.R_drew)); exact HO_8.out⟩, ⟨by repeat (first | (with_reducible first | exact HB.out | apply below_alloc | apply pw_below_drewN | apply below_drew1) | exact HB.out)⟩⟩
                      case round =>
                        clear H'
                        try clear c1
                        try clear p1
                        try clear q1
                        try clear hx1
                        try clear c2
                        try clear p2
                        try clear c3
                        try clear c5
                        try clear p6
                        try clear c10
                        try clear c12
                        try clear p12
                        try clear q12
                        try clear hx12
                        try clear c13
                        try clear c14
                        try clear c14b0
                        try clear c14b1
                        try clear c19
                        try clear c19b0
                        try clear c19b1
                        try clear c24
                        try clear c26
                        try clear c26b0
                        try clear c27
                        try clear c27b0
                        try clear c28
                        try clear c28b0
                        try clear c30
                        try clear hx1208_0
                        try clear p1
                        try clear p12
                        try clear p1208
                        try clear p2
                        try clear p6
                        try clear q1
                        try clear q12
                        try clear q1208
                        obtain ⟨x16_4, x82_4, rfl, rfl, HA, HK4, HO_8, HO_10, HO_12, HO_69, HO_80, HB⟩ := hrel
                        cases gk with
                        | zero => exact absurd HA.out (by simp [sealringlaw32_KeepGrows.l1])
                        | succ k4 =>
                          have H := HA.out
                          clear HA
                          simp only [sealringlaw32_KeepGrows.l1] at H
                          by_cases c32 : x82_4 < (t1196.length : Int)
                          · rw [if_pos c32] at H
                            have c32b0 : decide (x82_4 < (t1196.length : Int)) = true := decide_eq_true c32
                            clear c32
                            by_cases c33 : 0 ≤ x82_4
                            · rw [if_pos c33] at H
                              have c33b0 : decide (0 ≤ x82_4) = true := decide_eq_true c33
                              clear c33
                              by_cases c34 : x82_4 < (t1196.length : Int)
                              · rw [if_pos c34] at H
                                have c34b0 : decide (x82_4 < (t1196.length : Int)) = true := decide_eq_true c34
                                clear c34
                                by_cases c35 : x16_4 = true
                                · subst c35
                                  have H1 : (sealringlaw32_KeepGrows.l1 k4 a1 t1196 t1197 t1200 t1204 (rdOf ByteArray.empty t1192 x71_2) true t1192 (t1192.length : Int) x71_2 t1196 (t1196.length : Int) (wrap64 (x82_4 + 1))) = some r := by rw [if_pos rfl] at H; exact H
                                  clear H
                                  have H := H1
                                  clear H1
                                  have H' := Aside0.mk H
                                  clear H
                                  have p1209 : 0 ≤ (x82_4 : Int) := of_decide_eq_true (by first | (with_reducible assumption) | assumption)
                                  have q1209 : x82_4 < (t1196.length : Int) := of_decide_eq_true (by first | (with_reducible assumption) | assumption)
                                  obtain ⟨ad1209, e1209, hx1209_0⟩ := Kd.at_string (Kd.R_reads' HO_80.out).2.2 x82_4 p1209 q1209
                                  cases e1209
                                  replace p1209 := eq_true p1209
                                  replace q1209 := eq_true q1209
                                  go_wp2
                                  go_roundg k4
                                  case measure => have := HJ6.out; have := HK2.out; have := HJ28.out; have := HK4.out; omega
                                  case rel => exact ⟨(true), (wrap64 (x82_4 + 1)), (by first | rfl | (simp; done) | (simp [*]; done)), (by first | rfl | (simp; done) | (simp [*]; done)), (by first | with_reducible exact H' | exact H' | (subst_vars; exact H')), ⟨by have := HJ6.out; have := HK2.out; have := HJ28.out; have := HK4.out; omega⟩, ⟨by (with_reducible repeat (first | apply Kd.R_alloc | apply Kd.R_drewN | apply Kd.R_drew)); exact HO_8.out⟩, ⟨by (with_reducible repeat (first | apply Kd.R_alloc | apply Kd.R_drewN | apply Kd.R_drew)); exact HO_10.out⟩, ⟨by (with_reducible repeat (first | apply Kd.R_alloc | apply Kd.R_drewN | apply Kd.R_drew)); exact HO_12.out⟩, ⟨by (with_reducible repeat (first | apply Kd.R_alloc | apply Kd.R_drewN | apply Kd.R_drew)); exact HO_69.out⟩, ⟨by (with_reducible repeat (first | apply Kd.R_alloc | apply Kd.R_drewN | apply Kd.R_drew)); exact HO_80.out⟩, ⟨by repeat (first | (with_reducible first | exact HB.out | apply below_alloc | apply pw_below_drewN | apply below_drew1) | exact HB.out)⟩⟩
                                · replace c35 := Bool.eq_false_iff.mpr c35
                                  subst c35
                                  have H1 : (sealringlaw32_KeepGrows.l1 k4 a1 t1196 t1197 t1200 t1204 (rdOf ByteArray.empty t1192 x71_2) ((rdOf ByteArray.empty t1192 x71_2).toList == (rdOf ByteArray.empty t1196 x82_4).toList) t1192 (t1192.length : Int) x71_2 t1196 (t1196.length : Int) (wrap64 (x82_4 + 1))) = some r := by rw [if_neg (show ¬ (false = true) by decide)] at H; exact H
                                  clear H
                                  have H := H1
                                  clear H1
                                  have H' := Aside0.mk H
                                  clear H
                                  have p1209 : 0 ≤ (x82_4 : Int) := of_decide_eq_true (by first | (with_reducible assumption) | assumption)
                                  have q1209 : x82_4 < (t1196.length : Int) := of_decide_eq_true (by first | (with_reducible assumption) | assumption)
                                  obtain ⟨ad1209, e1209, hx1209_0⟩ := Kd.at_string (Kd.R_reads' HO_80.out).2.2 x82_4 p1209 q1209
                                  cases e1209
                                  replace p1209 := eq_true p1209
                                  replace q1209 := eq_true q1209
                                  go_wp2
                                  go_roundg k4
                                  case measure => have := HJ6.out; have := HK2.out; have := HJ28.out; have := HK4.out; omega
                                  case rel => exact ⟨(((rdOf ByteArray.empty t1192 x71_2).toList == (rdOf ByteArray.empty t1196 x82_4).toList)), (wrap64 (x82_4 + 1)), (by first | rfl | (simp; done) | (simp [*]; done)), (by first | rfl | (simp; done) | (simp [*]; done)), (by first | with_reducible exact H' | exact H' | (subst_vars; exact H')), ⟨by have := HJ6.out; have := HK2.out; have := HJ28.out; have := HK4.out; omega⟩, ⟨by (with_reducible repeat (first | apply Kd.R_alloc | apply Kd.R_drewN | apply Kd.R_drew)); exact HO_8.out⟩, ⟨by (with_reducible repeat (first | apply Kd.R_alloc | apply Kd.R_drewN | apply Kd.R_drew)); exact HO_10.out⟩, ⟨by (with_reducible repeat (first | apply Kd.R_alloc | apply Kd.R_drewN | apply Kd.R_drew)); exact HO_12.out⟩, ⟨by (with_reducible repeat (first | apply Kd.R_alloc | apply Kd.R_drewN | apply Kd.R_drew)); exact HO_69.out⟩, ⟨by (with_reducible repeat (first | apply Kd.R_alloc | apply Kd.R_drewN | apply Kd.R_drew)); exact HO_80.out⟩, ⟨by repeat (first | (with_reducible first | exact HB.out | apply below_alloc | apply pw_below_drewN | apply below_drew1) | exact HB.out)⟩⟩
                              · rw [if_neg c34] at H
                                exact absurd H (by simp)
                            · rw [if_neg c33] at H
                              exact absurd H (by simp)
                          · rw [if_neg c32] at H
                            have c32b0 : decide (x82_4 < (t1196.length : Int)) = false := decide_eq_false c32
                            clear c32
                            by_cases c36 : x16_4 = true
                            · subst c36
                              have H1 : (sealringlaw32_KeepGrows.l0 k4 a1 t1196 t1197 t1200 t1204 t1192 (t1192.length : Int) (wrap64 (x71_2 + 1))) = some r := by rw [if_pos rfl] at H; exact H
                              clear H
                              have H := H1
                              clear H1
                              have H' := Aside0.mk H
                              clear H
                              go_wp2
                              go_roundg k4
                              case measure => have := HJ6.out; have := HK2.out; have := HJ28.out; have := HK4.out; omega
                              case rel => exact ⟨(wrap64 (x71_2 + 1)), (by first | rfl | (simp; done) | (simp [*]; done)), (by first | with_reducible exact H' | exact H' | (subst_vars; exact H')), ⟨by have := HJ6.out; have := HK2.out; have := HJ28.out; have := HK4.out; omega⟩, ⟨by (with_reducible repeat (first | apply Kd.R_alloc | apply Kd.R_drewN | apply Kd.R_drew)); exact HO_8.out⟩, ⟨by (with_reducible repeat (first | apply Kd.R_alloc | apply Kd.R_drewN | apply Kd.R_drew)); exact Kd.R_mono HO_10.out (fun _ hk => ⟨hk.1, ⟨hk.2.1, hk.2.2.1⟩⟩)⟩, ⟨by (with_reducible repeat (first | apply Kd.R_alloc | apply Kd.R_drewN | apply Kd.R_drew)); exact Kd.R_mono HO_12.out (fun _ hk => ⟨hk.1, ⟨hk.2.1, hk.2.2.1⟩⟩)⟩, ⟨by (with_reducible repeat (first | apply Kd.R_alloc | apply Kd.R_drewN | apply Kd.R_drew)); exact Kd.R_mono HO_69.out (fun _ hk => ⟨hk.1, ⟨hk.2.1, hk.2.2.1⟩⟩)⟩, ⟨by repeat (first | (with_reducible first | exact HB.out | apply below_alloc | apply pw_below_drewN | apply below_drew1) | exact HB.out)⟩⟩
                            · replace c36 := Bool.eq_false_iff.mpr c36
                              subst c36
                              have H1 : (some false) = some r := by rw [if_neg (show ¬ (false = true) by decide)] at H; exact H
                              clear H
                              have H := H1
                              clear H1
                              obtain rfl := Option.some.inj H
                              go_wp2
                              go_ret
                              exact ⟨by first | rfl | (simp [errW_none, errW_some] <;> rfl) | (simp [*, errW_none, errW_some] <;> rfl), by repeat (first | (with_reducible first | exact HB.out | apply below_alloc | apply pw_below_drewN | apply below_drew1) | exact HB.out)⟩
                · rw [if_neg c28] at H
                  exact absurd H (by simp)
              · rw [if_neg c27] at H
                exact absurd H (by simp)
            · rw [if_neg c26] at H
              have c26b0 : decide (x71_2 < (t1192.length : Int)) = false := decide_eq_false c26
              clear c26
              have H' := Aside0.mk H
              clear H
              obtain ⟨Ao37, co37, eo37⟩ := Kd.R_slice HO_12.out
              subst eo37
              go_wp2
              go_loopg [98] k2 (fun kq v98 w' => ∃ (x98_3 : Int), v98 = .int .i64 x98_3 ∧ Aside0 (sealringlaw32_KeepGrows.l2 kq t1200 t1204 t1204 (t1204.length : Int) x98_3 = some r) ∧ Aside0 (kq ≤ k2) ∧ Aside0 (Kd.R Kd.string 9 w' w.heap.size (fun k_ => some k_ ≠ ((.slice Ao37 t1204.length co37) : Value).ownBlock ∧ some k_ ≠ ((.slice Ao37 t1204.length co37) : Value).ownBlock) v1202 t1200) ∧ Aside0 (Kd.R Kd.string 9 w' w.heap.size (fun k_ => some k_ ≠ (v1202 : Value).ownBlock) (.slice Ao37 t1204.length co37) t1204) ∧ Aside0 (Kd.R Kd.string 9 w' w.heap.size (fun k_ => some k_ ≠ (v1202 : Value).ownBlock) (.slice Ao37 t1204.length co37) t1204) ∧ Aside0 (Below w.heap.size w w'))
              case atStart => exact ⟨(0), (by first | rfl | (simp; done) | (simp [*]; done)), (by first | with_reducible exact H' | exact H' | (subst_vars; exact H')), ⟨Nat.le_refl _⟩, ⟨by (with_reducible repeat (first | apply Kd.R_alloc | apply Kd.R_drewN | apply Kd.R_drew)); exact Kd.R_mono HO_10.out (fun _ hk => ⟨hk.2.1, hk.2.1⟩)⟩, ⟨by (with_reducible repeat (first | apply Kd.R_alloc | apply Kd.R_drewN | apply Kd.R_drew)); exact Kd.R_mono HO_12.out (fun _ hk => hk.2.1)⟩, ⟨by (with_reducible repeat (first | apply Kd.R_alloc | apply Kd.R_drewN | apply Kd.R_drew)); exact Kd.R_mono HO_12.out (fun _ hk => hk.2.1)⟩, ⟨by repeat (first | (with_reducible first | exact HB.out | apply below_alloc | apply pw_below_drewN | apply below_drew1) | exact HB.out)⟩⟩
              case round =>
                clear H'
                try clear c1
                try clear p1
                try clear q1
                try clear hx1
                try clear c2
                try clear p2
                try clear c3
                try clear c5
                try clear p6
                try clear c10
                try clear c12
                try clear p12
                try clear q12
                try clear hx12
                try clear c13
                try clear c14
                try clear c14b0
                try clear c14b1
                try clear c19
                try clear c19b0
                try clear c19b1
                try clear c24
                try clear c26
                try clear c26b0
                try clear c27
                try clear c27b0
                try clear c28
                try clear c28b0
                try clear c30
                try clear c32
                try clear c32b0
                try clear c33
                try clear c33b0
                try clear c34
                try clear c34b0
                try clear c35
                try clear c36
                try clear hx1208_0
                try clear hx1209_0
                try clear p1
                try clear p12
                try clear p1208
                try clear p1209
                try clear p2
                try clear p6
                try clear q1
                try clear q12
                try clear q1208
                try clear q1209
                obtain ⟨x98_3, rfl, HA, HK3, HO_10, HO_12, HO_96, HB⟩ := hrel
                cases gk with
                | zero => exact absurd HA.out (by simp [sealringlaw32_KeepGrows.l2])
                | succ k3 =>
                  have H := HA.out
                  clear HA
                  simp only [sealringlaw32_KeepGrows.l2] at H
                  by_cases c38 : x98_3 < (t1204.length : Int)
                  · rw [if_pos c38] at H
                    have c38b0 : decide (x98_3 < (t1204.length : Int)) = true := decide_eq_true c38
                    clear c38
                    by_cases c39 : 0 ≤ x98_3
                    · rw [if_pos c39] at H
                      have c39b0 : decide (0 ≤ x98_3) = true := decide_eq_true c39
                      clear c39
                      by_cases c40 : x98_3 < (t1204.length : Int)
                      · rw [if_pos c40] at H
                        have c40b0 : decide (x98_3 < (t1204.length : Int)) = true := decide_eq_true c40
                        clear c40
                        have H' := Aside0.mk H
                        clear H
                        have p1211 : 0 ≤ (x98_3 : Int) := of_decide_eq_true (by first | (with_reducible assumption) | assumption)
                        have q1211 : x98_3 < (t1204.length : Int) := of_decide_eq_true (by first | (with_reducible assumption) | assumption)
                        obtain ⟨ad1211, e1211, hx1211_0⟩ := Kd.at_string (Kd.R_reads' HO_96.out).2.2 x98_3 p1211 q1211
                        cases e1211
                        replace p1211 := eq_true p1211
                        replace q1211 := eq_true q1211
                        obtain ⟨Ao41, co41, eo41⟩ := Kd.R_slice HO_10.out
                        subst eo41
                        go_wp2
                        go_loopg [21, 105] k3 (fun kq v21 v105 w' => ∃ (x21_4 : Bool) (x105_4 : Int), v21 = .bool x21_4 ∧ v105 = .int .i64 x105_4 ∧ Aside0 (sealringlaw32_KeepGrows.l3 kq t1200 t1204 x98_3 (rdOf ByteArray.empty t1204 x98_3) x21_4 t1204 (t1204.length : Int) x98_3 t1200 (t1200.length : Int) x105_4 = some r) ∧ Aside0 (kq ≤ k3) ∧ Aside0 (Kd.R Kd.string 9 w' w.heap.size (fun k_ => some k_ ≠ ((.slice (some ad1211) t1204.length co37) : Value).ownBlock ∧ some k_ ≠ ((.slice (some ad1211) t1204.length co37) : Value).ownBlock) (.slice Ao41 t1200.length co41) t1200) ∧ Aside0 (Kd.R Kd.string 9 w' w.heap.size (fun k_ => some k_ ≠ ((.slice Ao41 t1200.length co41) : Value).ownBlock ∧ some k_ ≠ ((.slice Ao41 t1200.length co41) : Value).ownBlock) (.slice (some ad1211) t1204.length co37) t1204) ∧ Aside0 (Kd.R Kd.string 9 w' w.heap.size (fun k_ => some k_ ≠ ((.slice Ao41 t1200.length co41) : Value).ownBlock ∧ some k_ ≠ ((.slice Ao41 t1200.length co41) : Value).ownBlock) (.slice (some ad1211) t1204.length co37) t1204) ∧ Aside0 (Kd.R Kd.string 9 w' w.heap.size (fun k_ => some k_ ≠ ((.slice (some ad1211) t1204.length co37) : Value).ownBlock ∧ some k_ ≠ ((.slice (some ad1211) t1204.length co37) : Value).ownBlock) (.slice Ao41 t1200.length co41) t1200) ∧ Aside0 (Below w.heap.size w w'))
                        case atStart => exact ⟨(false), (0), (by first | rfl | (simp; done) | (simp [*]; done)), (by first | rfl | (simp; done) | (simp [*]; done)), (by first | with_reducible exact H' | exact H' | (subst_vars; exact H')), ⟨Nat.le_refl _⟩, ⟨by (with_reducible repeat (first | apply Kd.R_alloc | apply Kd.R_drewN | apply Kd.R_drew)); exact HO_10.out⟩, ⟨by (with_reducible repeat (first | apply Kd.R_alloc | apply Kd.R_drewN | apply Kd.R_drew)); exact Kd.R_mono HO_12.out (fun _ hk => ⟨hk, hk⟩)⟩, ⟨by (with_reducible repeat (first | apply Kd.R_alloc | apply Kd.R_drewN | apply Kd.R_drew)); exact Kd.R_mono HO_96.out (fun _ hk => ⟨hk, hk⟩)⟩, ⟨by (with_reducible repeat (first | apply Kd.R_alloc | apply Kd.R_drewN | apply Kd.R_drew)); exact HO_10.out⟩, ⟨by repeat (first | (with_reducible first | exact HB.out | apply below_alloc | apply pw_below_drewN | apply below_drew1) | exact HB.out)⟩⟩
                        case round =>
                          clear H'
                          try clear c1
                          try clear p1
                          try clear q1
                          try clear hx1
                          try clear c2
                          try clear p2
                          try clear c3
                          try clear c4
                          try clear c5
                          try clear p6
                          try clear c10
                          try clear c12
                          try clear p12
                          try clear q12
                          try clear hx12
                          try clear c13
                          try clear c14
                          try clear c14b0
                          try clear c14b1
                          try clear c19
                          try clear c19b0
                          try clear c19b1
                          try clear c24
                          try clear c26
                          try clear c26b0
                          try clear c27
                          try clear c27b0
                          try clear c28
                          try clear c28b0
                          try clear c30
                          try clear c32
                          try clear c32b0
                          try clear c33
                          try clear c33b0
                          try clear c34
                          try clear c34b0
                          try clear c35
                          try clear c36
                          try clear c38
                          try clear c38b0
                          try clear c39
                          try clear c39b0
                          try clear c40
                          try clear c40b0
                          try clear hx1208_0
                          try clear hx1209_0
                          try clear hx1211_0
                          try clear p1
                          try clear p12
                          try clear p1208
                          try clear p1209
                          try clear p1211
                          try clear p2
                          try clear p6
                          try clear q1
                          try clear q12
                          try clear q1208
                          try clear q1209
                          try clear q1211
                          obtain ⟨x21_4, x105_4, rfl, rfl, HA, HK4, HO_10, HO_12, HO_96, HO_103, HB⟩ := hrel
                          cases gk with
                          | zero => exact absurd HA.out (by simp [sealringlaw32_KeepGrows.l3])
                          | succ k4 =>
                            have H := HA.out
                            clear HA
                            simp only [sealringlaw32_KeepGrows.l3] at H
                            by_cases c42 : x105_4 < (t1200.length : Int)
                            · rw [if_pos c42] at H
                              have c42b0 : decide (x105_4 < (t1200.length : Int)) = true := decide_eq_true c42
                              clear c42
                              by_cases c43 : 0 ≤ x105_4
                              · rw [if_pos c43] at H
                                have c43b0 : decide (0 ≤ x105_4) = true := decide_eq_true c43
                                clear c43
                                by_cases c44 : x105_4 < (t1200.length : Int)
                                · rw [if_pos c44] at H
                                  have c44b0 : decide (x105_4 < (t1200.length : Int)) = true := decide_eq_true c44
                                  clear c44
                                  by_cases c45 : x21_4 = true
                                  · subst c45
                                    have H1 : (sealringlaw32_KeepGrows.l3 k4 t1200 t1204 x98_3 (rdOf ByteArray.empty t1204 x98_3) true t1204 (t1204.length : Int) x98_3 t1200 (t1200.length : Int) (wrap64 (x105_4 + 1))) = some r := by rw [if_pos rfl] at H; exact H
                                    clear H
                                    have H := H1
                                    clear H1
                                    have H' := Aside0.mk H
                                    clear H
                                    have p1212 : 0 ≤ (x105_4 : Int) := of_decide_eq_true (by first | (with_reducible assumption) | assumption)
                                    have q1212 : x105_4 < (t1200.length : Int) := of_decide_eq_true (by first | (with_reducible assumption) | assumption)
                                    obtain ⟨ad1212, e1212, hx1212_0⟩ := Kd.at_string (Kd.R_reads' HO_103.out).2.2 x105_4 p1212 q1212
                                    cases e1212
                                    replace p1212 := eq_true p1212
                                    replace q1212 := eq_true q1212
                                    go_wp2
                                    go_roundg k4
                                    case measure => have := HJ6.out; have := HK2.out; have := HK3.out; have := HK4.out; omega
                                    case rel => exact ⟨(true), (wrap64 (x105_4 + 1)), (by first | rfl | (simp; done) | (simp [*]; done)), (by first | rfl | (simp; done) | (simp [*]; done)), (by first | with_reducible exact H' | exact H' | (subst_vars; exact H')), ⟨by have := HJ6.out; have := HK2.out; have := HK3.out; have := HK4.out; omega⟩, ⟨by (with_reducible repeat (first | apply Kd.R_alloc | apply Kd.R_drewN | apply Kd.R_drew)); exact HO_10.out⟩, ⟨by (with_reducible repeat (first | apply Kd.R_alloc | apply Kd.R_drewN | apply Kd.R_drew)); exact HO_12.out⟩, ⟨by (with_reducible repeat (first | apply Kd.R_alloc | apply Kd.R_drewN | apply Kd.R_drew)); exact HO_96.out⟩, ⟨by (with_reducible repeat (first | apply Kd.R_alloc | apply Kd.R_drewN | apply Kd.R_drew)); exact HO_103.out⟩, ⟨by repeat (first | (with_reducible first | exact HB.out | apply below_alloc | apply pw_below_drewN | apply below_drew1) | exact HB.out)⟩⟩
                                  · replace c45 := Bool.eq_false_iff.mpr c45
                                    subst c45
                                    have H1 : (sealringlaw32_KeepGrows.l3 k4 t1200 t1204 x98_3 (rdOf ByteArray.empty t1204 x98_3) ((rdOf ByteArray.empty t1204 x98_3).toList == (rdOf ByteArray.empty t1200 x105_4).toList) t1204 (t1204.length : Int) x98_3 t1200 (t1200.length : Int) (wrap64 (x105_4 + 1))) = some r := by rw [if_neg (show ¬ (false = true) by decide)] at H; exact H
                                    clear H
                                    have H := H1
                                    clear H1
                                    have H' := Aside0.mk H
                                    clear H
                                    have p1212 : 0 ≤ (x105_4 : Int) := of_decide_eq_true (by first | (with_reducible assumption) | assumption)
                                    have q1212 : x105_4 < (t1200.length : Int) := of_decide_eq_true (by first | (with_reducible assumption) | assumption)
                                    obtain ⟨ad1212, e1212, hx1212_0⟩ := Kd.at_string (Kd.R_reads' HO_103.out).2.2 x105_4 p1212 q1212
                                    cases e1212
                                    replace p1212 := eq_true p1212
                                    replace q1212 := eq_true q1212
                                    go_wp2
                                    go_roundg k4
                                    case measure => have := HJ6.out; have := HK2.out; have := HK3.out; have := HK4.out; omega
                                    case rel => exact ⟨(((rdOf ByteArray.empty t1204 x98_3).toList == (rdOf ByteArray.empty t1200 x105_4).toList)), (wrap64 (x105_4 + 1)), (by first | rfl | (simp; done) | (simp [*]; done)), (by first | rfl | (simp; done) | (simp [*]; done)), (by first | with_reducible exact H' | exact H' | (subst_vars; exact H')), ⟨by have := HJ6.out; have := HK2.out; have := HK3.out; have := HK4.out; omega⟩, ⟨by (with_reducible repeat (first | apply Kd.R_alloc | apply Kd.R_drewN | apply Kd.R_drew)); exact HO_10.out⟩, ⟨by (with_reducible repeat (first | apply Kd.R_alloc | apply Kd.R_drewN | apply Kd.R_drew)); exact HO_12.out⟩, ⟨by (with_reducible repeat (first | apply Kd.R_alloc | apply Kd.R_drewN | apply Kd.R_drew)); exact HO_96.out⟩, ⟨by (with_reducible repeat (first | apply Kd.R_alloc | apply Kd.R_drewN | apply Kd.R_drew)); exact HO_103.out⟩, ⟨by repeat (first | (with_reducible first | exact HB.out | apply below_alloc | apply pw_below_drewN | apply below_drew1) | exact HB.out)⟩⟩
                                · rw [if_neg c44] at H
                                  exact absurd H (by simp)
                              · rw [if_neg c43] at H
                                exact absurd H (by simp)
                            · rw [if_neg c42] at H
                              have c42b0 : decide (x105_4 < (t1200.length : Int)) = false := decide_eq_false c42
                              clear c42
                              by_cases c46 : x21_4 = true
                              · subst c46
                                have H1 : (if x98_3 > 0 then (if 0 ≤ (wrap64 (x98_3 - 1)) then (if (wrap64 (x98_3 - 1)) < (t1204.length : Int) then (if ((Op.bytesLess ((rdOf ByteArray.empty t1204 (wrap64 (x98_3 - 1))).toList) (rdOf ByteArray.empty t1204 x98_3).toList) = true) then (sealringlaw32_KeepGrows.l2 k4 t1200 t1204 t1204 (t1204.length : Int) (wrap64 (x98_3 + 1))) else (some false)) else (none)) else (none)) else (sealringlaw32_KeepGrows.l2 k4 t1200 t1204 t1204 (t1204.length : Int) (wrap64 (x98_3 + 1)))) = some r := by rw [if_pos rfl] at H; exact H
                                clear H
                                have H := H1
                                clear H1
                                by_cases c47 : x98_3 > 0
                                · rw [if_pos c47] at H
                                  have c47b0 : decide (0 < x98_3) = true := decide_eq_true c47
                                  clear c47
                                  obtain ⟨ji48, hji48⟩ : ∃ j_ : Int, (wrap64 (x98_3 - 1)) = j_ := ⟨_, rfl⟩
                                  replace H : (if 0 ≤ (ji48) then (if (ji48) < (t1204.length : Int) then (if ((Op.bytesLess ((rdOf ByteArray.empty t1204 (ji48)).toList) (rdOf ByteArray.empty t1204 x98_3).toList) = true) then (sealringlaw32_KeepGrows.l2 k4 t1200 t1204 t1204 (t1204.length : Int) (wrap64 (x98_3 + 1))) else (some false)) else (none)) else (none)) = some r := by first | (rw [hji48] at H; exact H) | (simp only [hji48] at H ⊢; exact H)
                                  have hji48w : (IntKind.i64.wrap (x98_3 - 1)) = ji48 := (i64_w _).trans hji48
                                  by_cases c49 : 0 ≤ (ji48)
                                  · rw [if_pos c49] at H
                                    have c49b0 : decide (0 ≤ (ji48)) = true := decide_eq_true c49
                                    clear c49
                                    by_cases c50 : (ji48) < (t1204.length : Int)
                                    · rw [if_pos c50] at H
                                      have c50b0 : decide ((ji48) < (t1204.length : Int)) = true := decide_eq_true c50
                                      clear c50
                                      by_cases c51 : ((Op.bytesLess ((rdOf ByteArray.empty t1204 (ji48)).toList) (rdOf ByteArray.empty t1204 x98_3).toList) = true)
                                      · rw [if_pos c51] at H
                                        have c51b0 : (Op.bytesLess ((rdOf ByteArray.empty t1204 (ji48)).toList) (rdOf ByteArray.empty t1204 x98_3).toList) = true := c51
                                        clear c51
                                        have H' := Aside0.mk H
                                        clear H
                                        have p1213 : 0 ≤ ((ji48) : Int) := of_decide_eq_true (by first | (with_reducible assumption) | assumption)
                                        have q1213 : (ji48) < (t1204.length : Int) := of_decide_eq_true (by first | (with_reducible assumption) | assumption)
                                        obtain ⟨ad1213, e1213, hx1213_0⟩ := Kd.at_string (Kd.R_reads' HO_12.out).2.2 (ji48) p1213 q1213
                                        obtain rfl : ad1211 = ad1213 := (by injection e1213)
                                        replace p1213 := eq_true p1213
                                        replace q1213 := eq_true q1213
                                        go_wp2
                                        go_roundg k4
                                        case measure => have := HJ6.out; have := HK2.out; have := HK3.out; have := HK4.out; omega
                                        case rel => exact ⟨(wrap64 (x98_3 + 1)), (by first | rfl | (simp; done) | (simp [*]; done)), (by first | with_reducible exact H' | exact H' | (subst_vars; exact H')), ⟨by have := HJ6.out; have := HK2.out; have := HK3.out; have := HK4.out; omega⟩, ⟨by (with_reducible repeat (first | apply Kd.R_alloc | apply Kd.R_drewN | apply Kd.R_drew)); exact HO_10.out⟩, ⟨by (with_reducible repeat (first | apply Kd.R_alloc | apply Kd.R_drewN | apply Kd.R_drew)); exact Kd.R_mono HO_12.out (fun _ hk => hk.1)⟩, ⟨by (with_reducible repeat (first | apply Kd.R_alloc | apply Kd.R_drewN | apply Kd.R_drew)); exact Kd.R_mono HO_96.out (fun _ hk => hk.1)⟩, ⟨by repeat (first | (with_reducible first | exact HB.out | apply below_alloc | apply pw_below_drewN | apply below_drew1) | exact HB.out)⟩⟩
                                      · rw [if_neg c51] at H
                                        have c51b0 : (Op.bytesLess ((rdOf ByteArray.empty t1204 (ji48)).toList) (rdOf ByteArray.empty t1204 x98_3).toList) = false := by simpa using c51
                                        clear c51
                                        obtain rfl := Option.some.inj H
                                        have p1213 : 0 ≤ ((ji48) : Int) := of_decide_eq_true (by first | (with_reducible assumption) | assumption)
                                        have q1213 : (ji48) < (t1204.length : Int) := of_decide_eq_true (by first | (with_reducible assumption) | assumption)
                                        obtain ⟨ad1213, e1213, hx1213_0⟩ := Kd.at_string (Kd.R_reads' HO_12.out).2.2 (ji48) p1213 q1213
                                        obtain rfl : ad1211 = ad1213 := (by injection e1213)
                                        replace p1213 := eq_true p1213
                                        replace q1213 := eq_true q1213
                                        go_wp2
                                        go_ret
                                        exact ⟨by first | rfl | (simp [errW_none, errW_some] <;> rfl) | (simp only [← hji48]; first | rfl | (simp [errW_none, errW_some] <;> rfl)) | (simp [*, errW_none, errW_some] <;> rfl), by repeat (first | (with_reducible first | exact HB.out | apply below_alloc | apply pw_below_drewN | apply below_drew1) | exact HB.out)⟩
                                    · rw [if_neg c50] at H
                                      exact absurd H (by simp)
                                  · rw [if_neg c49] at H
                                    exact absurd H (by simp)
                                · rw [if_neg c47] at H
                                  have c47b0 : decide (0 < x98_3) = false := decide_eq_false c47
                                  clear c47
                                  have H' := Aside0.mk H
                                  clear H
                                  go_wp2
                                  go_roundg k4
                                  case measure => have := HJ6.out; have := HK2.out; have := HK3.out; have := HK4.out; omega
                                  case rel => exact ⟨(wrap64 (x98_3 + 1)), (by first | rfl | (simp; done) | (simp [*]; done)), (by first | with_reducible exact H' | exact H' | (subst_vars; exact H')), ⟨by have := HJ6.out; have := HK2.out; have := HK3.out; have := HK4.out; omega⟩, ⟨by (with_reducible repeat (first | apply Kd.R_alloc | apply Kd.R_drewN | apply Kd.R_drew)); exact HO_10.out⟩, ⟨by (with_reducible repeat (first | apply Kd.R_alloc | apply Kd.R_drewN | apply Kd.R_drew)); exact Kd.R_mono HO_12.out (fun _ hk => hk.1)⟩, ⟨by (with_reducible repeat (first | apply Kd.R_alloc | apply Kd.R_drewN | apply Kd.R_drew)); exact Kd.R_mono HO_96.out (fun _ hk => hk.1)⟩, ⟨by repeat (first | (with_reducible first | exact HB.out | apply below_alloc | apply pw_below_drewN | apply below_drew1) | exact HB.out)⟩⟩
                              · replace c46 := Bool.eq_false_iff.mpr c46
                                subst c46
                                have H1 : (some false) = some r := by rw [if_neg (show ¬ (false = true) by decide)] at H; exact H
                                clear H
                                have H := H1
                                clear H1
                                obtain rfl := Option.some.inj H
                                go_wp2
                                go_ret
                                exact ⟨by first | rfl | (simp [errW_none, errW_some] <;> rfl) | (simp [*, errW_none, errW_some] <;> rfl), by repeat (first | (with_reducible first | exact HB.out | apply below_alloc | apply pw_below_drewN | apply below_drew1) | exact HB.out)⟩
                      · rw [if_neg c40] at H
                        exact absurd H (by simp)
                    · rw [if_neg c39] at H
                      exact absurd H (by simp)
                  · rw [if_neg c38] at H
                    have c38b0 : decide (x98_3 < (t1204.length : Int)) = false := decide_eq_false c38
                    clear c38
                    replace H := Option.bind_eq_some_iff.mp H
                    obtain ⟨t1210, A520, H⟩ := H
                    replace H : (some t1210) = some r := H
                    have A52 := Aside0.mk A520
                    clear A520
                    obtain rfl := Option.some.inj H
                    go_wp2_with (first | ((with_reducible refine gate_callee (f := 59) rfl ?_); refine goesL_ (some 132) rfl rfl Try.func59 (by kernel_rfl) rfl #[] rfl (by (try simp only [List.map_toArray, List.map_cons, List.map_nil]); first | done | rfl | (simp only [List.length_drop, List.length_take]; rfl)) ?_; (with_reducible refine (sealringlaw32_lives.calls  t1210 _ A52.out).mono ?_); rintro e w53 ⟨rfl, hb⟩; refine ⟨_, rfl, ?_⟩; have n0_ := Aside0.mk (Kd.R_below (by (with_reducible repeat (first | apply Kd.R_alloc | apply Kd.R_drewN | apply Kd.R_drew)); exact HO_10.out) hb); have n1_ := Aside0.mk (Kd.R_below (by (with_reducible repeat (first | apply Kd.R_alloc | apply Kd.R_drewN | apply Kd.R_drew)); exact HO_12.out) hb); have n2_ := Aside0.mk (Kd.R_below (by (with_reducible repeat (first | apply Kd.R_alloc | apply Kd.R_drewN | apply Kd.R_drew)); exact HO_96.out) hb); have n3_ := Aside0.mk (below_step (by repeat (first | (with_reducible first | exact HB.out | apply below_alloc | apply pw_below_drewN | apply below_drew1) | exact HB.out)) hb); clear HO_10; clear HO_12; clear HO_96; clear HB; have HO_10 := n0_; have HO_12 := n1_; have HO_96 := n2_; have HB := n3_; clear n0_ n1_ n2_ n3_; (try clear hb); (try clear hb2); (try clear hk); (try clear hi)))
                    go_ret
                    exact ⟨by first | rfl | (simp [errW_none, errW_some] <;> rfl) | (simp [*, errW_none, errW_some] <;> rfl), by repeat (first | (with_reducible first | exact HB.out | apply below_alloc | apply pw_below_drewN | apply below_drew1) | exact HB.out)⟩
def sealringlaw32_KeepGrows.Pure : Prop := ∀ (a0 : Int) (a1 : ByteArray), (Lit.int .u8 a0).wf = true → a1.size ≤ 140737488351232 → ∃ k, sealringlaw32_KeepGrows.f k a0 a1 = some true
theorem sealringlaw32_KeepGrows.walk (P : sealringlaw32_KeepGrows.Pure) (a0 : Int) (a1 : ByteArray) (w : World) (w0 : (Lit.int .u8 a0).wf = true) (w1 : a1.size ≤ 140737488351232) :
    Calls Try.prog 10 #[.int .u8 a0, .string a1] w fun e w' => e = .returned (.bool true) ∧ Below w.heap.size w w' := by
  obtain ⟨k, h⟩ := P a0 a1 w0 w1
  refine (sealringlaw32_KeepGrows.calls k a0 a1 true w h).mono ?_
  rintro e w' ⟨rfl, hd⟩
  exact ⟨rfl, hd⟩
end Go.Proofs.Ytbnmcnghmnhigaa.X
end
section
namespace Go.Proofs.Ytbnmcnghmnhigaa.X
open Go.RowKit Go.Proofs.YtbnmcnghmnhigaaW.PrintWords Go.Proofs.YtbnmcnghmnhigaaW.PrintLast Go.Proofs.YtbnmcnghmnhigaaW.PrintMore
attribute [local go_sem] max2_int min2_int max_two min_two max_three min_three max_four min_four
set_option linter.unusedVariables false
set_option linter.unusedSimpArgs false
def sealringref26_Of.f (a0 : Int) : Option (List Bool × Bool) := if a0 < 1 then (some (([] : List Bool), false)) else (if a0 > 11 then (some (([] : List Bool), false)) else (some ((([decide (a0 ≤ 2), decide (a0 ≤ 2), decide (a0 ≥ 4), decide (a0 ≤ 5), decide (a0 ≥ 8), decide (a0 ≥ 9), decide (a0 ≥ 11)] : List Bool)), true)))
set_option maxHeartbeats 8000000 in
set_option maxRecDepth 100000 in
theorem sealringref26_Of.calls (a0 : Int) (r1 : List Bool) (r2 : Bool) (w : World) (h : sealringref26_Of.f a0 = some (r1, r2)) :
    Calls Try.prog 102 #[.int .i64 a0] w fun e w' => ∃ v0_ : Value, e = .returned (.tuple #[v0_, .bool r2]) ∧ Kd.R Kd.bool 4 w' w.heap.size (fun _ => True) v0_ r1 ∧ Below w.heap.size w w' := by
  have HB := Aside0.mk (Below.refl w.heap.size w)
  have H : (if a0 < 1 then (some (([] : List Bool), false)) else (if a0 > 11 then (some (([] : List Bool), false)) else (some ((([decide (a0 ≤ 2), decide (a0 ≤ 2), decide (a0 ≥ 4), decide (a0 ≤ 5), decide (a0 ≥ 8), decide (a0 ≥ 9), decide (a0 ≥ 11)] : List Bool)), true)))) = some (r1, r2) := h
  clear h
  by_cases c2 : a0 < 1
  · rw [if_pos c2] at H
    have c2b0 : decide (a0 < 1) = true := decide_eq_true c2
    clear c2
    simp only [Option.some.injEq, Prod.mk.injEq] at H
    obtain ⟨rfl, rfl⟩ := H
    go_enter Try.func102, Try.ntmps102
    go_wp2
    go_ret2
    exact ⟨_, by first | rfl | (simp [errW_none, errW_some] <;> rfl) | (simp [*, errW_none, errW_some] <;> rfl), by first | exact Kd.R_nil _ _ _ _ _ | exact Kd.N_nil _ _ _ _ _ | exact Kd.V_nil _ _ _ _ _ | exact Kd.Q_nil _ _ _ _ _ | exact Kd.S_nil _ _ _ _ _, by repeat (first | (with_reducible first | exact HB.out | apply below_alloc | apply pw_below_drewN | apply below_drew1) | exact HB.out)⟩
  · rw [if_neg c2] at H
    have c2b0 : decide (a0 < 1) = false := decide_eq_false c2
    clear c2
    by_cases c3 : a0 > 11
    · rw [if_pos c3] at H
      have c3b0 : decide (11 < a0) = true := decide_eq_true c3
      clear c3
      simp only [Option.some.injEq, Prod.mk.injEq] at H
      obtain ⟨rfl, rfl⟩ := H
      go_enter Try.func102, Try.ntmps102
      go_wp2
      go_ret2
      exact ⟨_, by first | rfl | (simp [errW_none, errW_some] <;> rfl) | (simp [*, errW_none, errW_some] <;> rfl), by first | exact Kd.R_nil _ _ _ _ _ | exact Kd.N_nil _ _ _ _ _ | exact Kd.V_nil _ _ _ _ _ | exact Kd.Q_nil _ _ _ _ _ | exact Kd.S_nil _ _ _ _ _, by repeat (first | (with_reducible first | exact HB.out | apply below_alloc | apply pw_below_drewN | apply below_drew1) | exact HB.out)⟩
    · rw [if_neg c3] at H
      have c3b0 : decide (11 < a0) = false := decide_eq_false c3
      clear c3
      obtain ⟨y1032, hy1032⟩ : ∃ y_ : List Bool, y_ = (([decide (a0 ≤ 2), decide (a0 ≤ 2), decide (a0 ≥ 4), decide (a0 ≤ 5), decide (a0 ≥ 8), decide (a0 ≥ 9), decide (a0 ≥ 11)] : List Bool)) := ⟨_, rfl⟩
      replace H : (some (y1032, true)) = some (r1, r2) := by first | (rw [hy1032]; with_reducible exact H) | (have H2_ := (Option.bind_some _ _).symm.trans H; rw [hy1032]; with_reducible exact H2_) | (have H2_ := (Option.bind_some _ _).symm.trans H; with_reducible exact H2_) | with_reducible exact H | (rw [hy1032]; exact H) | exact H
      have Ny1032 := Aside0.mk hy1032
      clear hy1032
      simp only [Option.some.injEq, Prod.mk.injEq] at H
      obtain ⟨rfl, rfl⟩ := H
      go_enter Try.func102, Try.ntmps102
      go_wp2_with (first | ((with_reducible refine gate_dst (N := 24) rfl ?_); refine Kd.R_lit Kd.bool _ 4 ?hg (N := 24) ?hd (xs := ([decide (a0 ≤ 2), decide (a0 ≤ 2), decide (a0 ≥ 4), decide (a0 ≤ 5), decide (a0 ≥ 8), decide (a0 ≥ 9), decide (a0 ≥ 11)] : List Bool)) (inner := [.bool (decide (a0 ≤ 2)), .bool (decide (a0 ≤ 2)), .bool (decide (a0 ≥ 4)), .bool (decide (a0 ≤ 5)), .bool (decide (a0 ≥ 8)), .bool (decide (a0 ≥ 9)), .bool (decide (a0 ≥ 11))]) (ok := fun _ => True) (okp := fun _ => True) ?hr ?hp (fun _ hk => hk) trivial (Below.refl _ _) (Nat.le_refl _) (by simp) ?_; (case hd => rfl); (case hg => rfl); (case hr => first | (go_simp; done) | (go_simp; rfl)); (case hp => exact (Reps.one (show Kd.M Kd.bool _ _ _ (decide (a0 ≤ 2)) [.bool (decide (a0 ≤ 2))] from rfl) (Reps.one (show Kd.M Kd.bool _ _ _ (decide (a0 ≤ 2)) [.bool (decide (a0 ≤ 2))] from rfl) (Reps.one (show Kd.M Kd.bool _ _ _ (decide (a0 ≥ 4)) [.bool (decide (a0 ≥ 4))] from rfl) (Reps.one (show Kd.M Kd.bool _ _ _ (decide (a0 ≤ 5)) [.bool (decide (a0 ≤ 5))] from rfl) (Reps.one (show Kd.M Kd.bool _ _ _ (decide (a0 ≥ 8)) [.bool (decide (a0 ≥ 8))] from rfl) (Reps.one (show Kd.M Kd.bool _ _ _ (decide (a0 ≥ 9)) [.bool (decide (a0 ≥ 9))] from rfl) (Reps.one (show Kd.M Kd.bool _ _ _ (decide (a0 ≥ 11)) [.bool (decide (a0 ≥ 11))] from rfl) (Reps.none _ _))))))))); intro v1033 w4 ho5 hb hg_ hnew_; clear hg_ hnew_; (first | rw [← Ny1032.out] at ho5 | (simp only [Int.reduceToNat] at ho5; rw [← Ny1032.out] at ho5)); have n0_ := Aside0.mk (Kd.R_lower ho5 (below_size (by repeat (first | (with_reducible first | exact HB.out | apply below_alloc | apply pw_below_drewN | apply below_drew1) | exact HB.out)))); have n1_ := Aside0.mk (below_step (by repeat (first | (with_reducible first | exact HB.out | apply below_alloc | apply pw_below_drewN | apply below_drew1) | exact HB.out)) hb); clear HB; have HO1034 := n0_; have HB := n1_; clear n0_ n1_; clear hb ho5))
      go_ret2
      exact ⟨_, by first | rfl | (simp [errW_none, errW_some] <;> rfl) | (simp [*, errW_none, errW_some] <;> rfl), by (with_reducible repeat (first | apply Kd.R_alloc | apply Kd.R_drewN | apply Kd.R_drew)); exact HO1034.out, by repeat (first | (with_reducible first | exact HB.out | apply below_alloc | apply pw_below_drewN | apply below_drew1) | exact HB.out)⟩
end Go.Proofs.Ytbnmcnghmnhigaa.X
end
section
namespace Go.Proofs.Ytbnmcnghmnhigaa.X
open Go.RowKit Go.Proofs.YtbnmcnghmnhigaaW.PrintWords Go.Proofs.YtbnmcnghmnhigaaW.PrintLast Go.Proofs.YtbnmcnghmnhigaaW.PrintMore
attribute [local go_sem] max2_int min2_int max_two min_two max_three min_three max_four min_four
set_option linter.unusedVariables false
set_option linter.unusedSimpArgs false
def sealringref32_Top.l0 : Nat → List Bool → List ByteArray → List ByteArray → Int → Option (List ByteArray × Bool)
  | 0, _, _, _, _ => none
  | k + 1, x4, x6, x7, x8 => if x8 < 15 then (if x8 = 5 then (if 6 < (x4.length : Int) then (if rdOf false x4 6 = true then (sealringref32_Top.l0 k x4 x6 x7 (wrap64 (x8 + 1))) else (if 0 ≤ x8 then (if x8 < (x6.length : Int) then (if x7.length < 8796093022208 then (sealringref32_Top.l0 k x4 x6 (x7 ++ [rdOf ByteArray.empty x6 x8]) (wrap64 (x8 + 1))) else (none)) else (none)) else (none))) else (none)) else (if x8 = 6 then (if 6 < (x4.length : Int) then (if rdOf false x4 6 = true then (sealringref32_Top.l0 k x4 x6 x7 (wrap64 (x8 + 1))) else (if 0 ≤ x8 then (if x8 < (x6.length : Int) then (if x7.length < 8796093022208 then (sealringref32_Top.l0 k x4 x6 (x7 ++ [rdOf ByteArray.empty x6 x8]) (wrap64 (x8 + 1))) else (none)) else (none)) else (none))) else (none)) else (if x8 = 9 then (if 6 < (x4.length : Int) then (if rdOf false x4 6 = true then (sealringref32_Top.l0 k x4 x6 x7 (wrap64 (x8 + 1))) else (if 0 ≤ x8 then (if x8 < (x6.length : Int) then (if x7.length < 8796093022208 then (sealringref32_Top.l0 k x4 x6 (x7 ++ [rdOf ByteArray.empty x6 x8]) (wrap64 (x8 + 1))) else (none)) else (none)) else (none))) else (none)) else (if 0 ≤ x8 then (if x8 < (x6.length : Int) then (if x7.length < 8796093022208 then (sealringref32_Top.l0 k x4 x6 (x7 ++ [rdOf ByteArray.empty x6 x8]) (wrap64 (x8 + 1))) else (none)) else (none)) else (none))))) else (some (x7, true))
def sealringref32_Top.f (k : Nat) (a0 : Int) : Option (List ByteArray × Bool) := (sealringref26_Of.f a0).bind fun bt1035 => (if bt1035.2 = true then (sealringref32_Top.l0 k bt1035.1 (([(⟨#[97, 117, 116, 104, 95, 101, 118, 101, 110, 116, 115]⟩ : ByteArray), (⟨#[99, 111, 110, 116, 101, 110, 116]⟩ : ByteArray), (⟨#[100, 101, 112, 116, 104]⟩ : ByteArray), (⟨#[101, 118, 101, 110, 116, 95, 105, 100]⟩ : ByteArray), (⟨#[104, 97, 115, 104, 101, 115]⟩ : ByteArray), (⟨#[109, 101, 109, 98, 101, 114, 115, 104, 105, 112]⟩ : ByteArray), (⟨#[111, 114, 105, 103, 105, 110]⟩ : ByteArray), (⟨#[111, 114, 105, 103, 105, 110, 95, 115, 101, 114, 118, 101, 114, 95, 116, 115]⟩ : ByteArray), (⟨#[112, 114, 101, 118, 95, 101, 118, 101, 110, 116, 115]⟩ : ByteArray), (⟨#[112, 114, 101, 118, 95, 115, 116, 97, 116, 101]⟩ : ByteArray), (⟨#[114, 111, 111, 109, 95, 105, 100]⟩ : ByteArray), (⟨#[115, 101, 110, 100, 101, 114]⟩ : ByteArray), (⟨#[115, 105, 103, 110, 97, 116, 117, 114, 101, 115]⟩ : ByteArray), (⟨#[115, 116, 97, 116, 101, 95, 107, 101, 121]⟩ : ByteArray), (⟨#[116, 121, 112, 101]⟩ : ByteArray)] : List ByteArray)) ([] : List ByteArray) 0) else (some (([] : List ByteArray), false)))
theorem sealringref32_Top.mono_l : ∀ k, (∀ y0 y1 y2 y3, LeO (sealringref32_Top.l0 k y0 y1 y2 y3) (sealringref32_Top.l0 (k + 1) y0 y1 y2 y3))
  | 0 => fun _ _ _ _ r h => by simp [sealringref32_Top.l0] at h
  | k + 1 => by
    have ih0 := sealringref32_Top.mono_l k
    · intro y0 y1 y2 y3
      unfold sealringref32_Top.l0
      repeat' first
      | (with_reducible exact ih0 _ _ _ _)
      | (with_reducible exact LeO.refl _)
      | (with_reducible exact LeO.none _)
      | (with_reducible refine LeO.ite ?_ ?_)
      | (with_reducible refine LeO.bind ?_ (fun _ => ?_))
      | exact ih0 _ _ _ _
      | exact LeO.none _
      | refine LeO.ite ?_ ?_
      | refine LeO.bind ?_ (fun _ => ?_)
theorem sealringref32_Top.mono : ∀ a0 k, LeO (sealringref32_Top.f k a0) (sealringref32_Top.f (k + 1) a0) := by
  intro a0 k
  have ih0 := sealringref32_Top.mono_l k
  unfold sealringref32_Top.f
  repeat' first
      | (with_reducible exact ih0 _ _ _ _)
      | (with_reducible exact LeO.refl _)
      | (with_reducible exact LeO.none _)
      | (with_reducible refine LeO.ite ?_ ?_)
      | (with_reducible refine LeO.bind ?_ (fun _ => ?_))
      | exact ih0 _ _ _ _
      | exact LeO.none _
      | refine LeO.ite ?_ ?_
      | refine LeO.bind ?_ (fun _ => ?_)
set_option maxHeartbeats 8000000 in
set_option maxRecDepth 100000 in
theorem sealringref32_Top.calls (k : Nat) (a0 : Int) (r1 : List ByteArray) (r2 : Bool) (w : World) (h : sealringref32_Top.f k a0 = some (r1, r2)) :
    Calls Try.prog 53 #[.int .i64 a0] w fun e w' => ∃ v0_ : Value, e = .returned (.tuple #[v0_, .bool r2]) ∧ Kd.R Kd.string 9 w' w.heap.size (fun _ => True) v0_ r1 ∧ Below w.heap.size w w' := by
  have HB := Aside0.mk (Below.refl w.heap.size w)
  have H : ((sealringref26_Of.f a0).bind fun bt1035 => (if bt1035.2 = true then (sealringref32_Top.l0 k bt1035.1 (([(⟨#[97, 117, 116, 104, 95, 101, 118, 101, 110, 116, 115]⟩ : ByteArray), (⟨#[99, 111, 110, 116, 101, 110, 116]⟩ : ByteArray), (⟨#[100, 101, 112, 116, 104]⟩ : ByteArray), (⟨#[101, 118, 101, 110, 116, 95, 105, 100]⟩ : ByteArray), (⟨#[104, 97, 115, 104, 101, 115]⟩ : ByteArray), (⟨#[109, 101, 109, 98, 101, 114, 115, 104, 105, 112]⟩ : ByteArray), (⟨#[111, 114, 105, 103, 105, 110]⟩ : ByteArray), (⟨#[111, 114, 105, 103, 105, 110, 95, 115, 101, 114, 118, 101, 114, 95, 116, 115]⟩ : ByteArray), (⟨#[112, 114, 101, 118, 95, 101, 118, 101, 110, 116, 115]⟩ : ByteArray), (⟨#[112, 114, 101, 118, 95, 115, 116, 97, 116, 101]⟩ : ByteArray), (⟨#[114, 111, 111, 109, 95, 105, 100]⟩ : ByteArray), (⟨#[115, 101, 110, 100, 101, 114]⟩ : ByteArray), (⟨#[115, 105, 103, 110, 97, 116, 117, 114, 101, 115]⟩ : ByteArray), (⟨#[115, 116, 97, 116, 101, 95, 107, 101, 121]⟩ : ByteArray), (⟨#[116, 121, 112, 101]⟩ : ByteArray)] : List ByteArray)) ([] : List ByteArray) 0) else (some (([] : List ByteArray), false)))) = some (r1, r2) := h
  clear h
  replace H := Option.bind_eq_some_iff.mp H
  obtain ⟨⟨t1035, t1036⟩, A20, H⟩ := H
  replace H : (if t1036 = true then (sealringref32_Top.l0 k t1035 (([(⟨#[97, 117, 116, 104, 95, 101, 118, 101, 110, 116, 115]⟩ : ByteArray), (⟨#[99, 111, 110, 116, 101, 110, 116]⟩ : ByteArray), (⟨#[100, 101, 112, 116, 104]⟩ : ByteArray), (⟨#[101, 118, 101, 110, 116, 95, 105, 100]⟩ : ByteArray), (⟨#[104, 97, 115, 104, 101, 115]⟩ : ByteArray), (⟨#[109, 101, 109, 98, 101, 114, 115, 104, 105, 112]⟩ : ByteArray), (⟨#[111, 114, 105, 103, 105, 110]⟩ : ByteArray), (⟨#[111, 114, 105, 103, 105, 110, 95, 115, 101, 114, 118, 101, 114, 95, 116, 115]⟩ : ByteArray), (⟨#[112, 114, 101, 118, 95, 101, 118, 101, 110, 116, 115]⟩ : ByteArray), (⟨#[112, 114, 101, 118, 95, 115, 116, 97, 116, 101]⟩ : ByteArray), (⟨#[114, 111, 111, 109, 95, 105, 100]⟩ : ByteArray), (⟨#[115, 101, 110, 100, 101, 114]⟩ : ByteArray), (⟨#[115, 105, 103, 110, 97, 116, 117, 114, 101, 115]⟩ : ByteArray), (⟨#[115, 116, 97, 116, 101, 95, 107, 101, 121]⟩ : ByteArray), (⟨#[116, 121, 112, 101]⟩ : ByteArray)] : List ByteArray)) ([] : List ByteArray) 0) else (some (([] : List ByteArray), false))) = some (r1, r2) := H
  have A2 := Aside0.mk A20
  clear A20
  by_cases c3 : t1036 = true
  · subst c3
    have H1 : (sealringref32_Top.l0 k t1035 (([(⟨#[97, 117, 116, 104, 95, 101, 118, 101, 110, 116, 115]⟩ : ByteArray), (⟨#[99, 111, 110, 116, 101, 110, 116]⟩ : ByteArray), (⟨#[100, 101, 112, 116, 104]⟩ : ByteArray), (⟨#[101, 118, 101, 110, 116, 95, 105, 100]⟩ : ByteArray), (⟨#[104, 97, 115, 104, 101, 115]⟩ : ByteArray), (⟨#[109, 101, 109, 98, 101, 114, 115, 104, 105, 112]⟩ : ByteArray), (⟨#[111, 114, 105, 103, 105, 110]⟩ : ByteArray), (⟨#[111, 114, 105, 103, 105, 110, 95, 115, 101, 114, 118, 101, 114, 95, 116, 115]⟩ : ByteArray), (⟨#[112, 114, 101, 118, 95, 101, 118, 101, 110, 116, 115]⟩ : ByteArray), (⟨#[112, 114, 101, 118, 95, 115, 116, 97, 116, 101]⟩ : ByteArray), (⟨#[114, 111, 111, 109, 95, 105, 100]⟩ : ByteArray), (⟨#[115, 101, 110, 100, 101, 114]⟩ : ByteArray), (⟨#[115, 105, 103, 110, 97, 116, 117, 114, 101, 115]⟩ : ByteArray), (⟨#[115, 116, 97, 116, 101, 95, 107, 101, 121]⟩ : ByteArray), (⟨#[116, 121, 112, 101]⟩ : ByteArray)] : List ByteArray)) ([] : List ByteArray) 0) = some (r1, r2) := by rw [if_pos rfl] at H; exact H
    clear H
    have H := H1
    clear H1
    obtain ⟨y1039, hy1039⟩ : ∃ y_ : List ByteArray, y_ = (([(⟨#[97, 117, 116, 104, 95, 101, 118, 101, 110, 116, 115]⟩ : ByteArray), (⟨#[99, 111, 110, 116, 101, 110, 116]⟩ : ByteArray), (⟨#[100, 101, 112, 116, 104]⟩ : ByteArray), (⟨#[101, 118, 101, 110, 116, 95, 105, 100]⟩ : ByteArray), (⟨#[104, 97, 115, 104, 101, 115]⟩ : ByteArray), (⟨#[109, 101, 109, 98, 101, 114, 115, 104, 105, 112]⟩ : ByteArray), (⟨#[111, 114, 105, 103, 105, 110]⟩ : ByteArray), (⟨#[111, 114, 105, 103, 105, 110, 95, 115, 101, 114, 118, 101, 114, 95, 116, 115]⟩ : ByteArray), (⟨#[112, 114, 101, 118, 95, 101, 118, 101, 110, 116, 115]⟩ : ByteArray), (⟨#[112, 114, 101, 118, 95, 115, 116, 97, 116, 101]⟩ : ByteArray), (⟨#[114, 111, 111, 109, 95, 105, 100]⟩ : ByteArray), (⟨#[115, 101, 110, 100, 101, 114]⟩ : ByteArray), (⟨#[115, 105, 103, 110, 97, 116, 117, 114, 101, 115]⟩ : ByteArray), (⟨#[115, 116, 97, 116, 101, 95, 107, 101, 121]⟩ : ByteArray), (⟨#[116, 121, 112, 101]⟩ : ByteArray)] : List ByteArray)) := ⟨_, rfl⟩
    replace H : (sealringref32_Top.l0 k t1035 y1039 ([] : List ByteArray) 0) = some (r1, r2) := by first | (rw [hy1039]; with_reducible exact H) | (have H2_ := (Option.bind_some _ _).symm.trans H; rw [hy1039]; with_reducible exact H2_) | (have H2_ := (Option.bind_some _ _).symm.trans H; with_reducible exact H2_) | with_reducible exact H | (rw [hy1039]; exact H) | exact H
    have Ny1039 := Aside0.mk hy1039
    clear hy1039
    have H' := Aside0.mk H
    clear H
    go_enter Try.func53, Try.ntmps53
    go_wp2_with (first | ((with_reducible refine gate_callee (f := 102) rfl ?_); refine goesL_ (some 11) rfl rfl Try.func102 (by kernel_rfl) rfl #[.int .i64 a0] rfl (by (try simp only [List.map_toArray, List.map_cons, List.map_nil]); first | done | rfl | (simp only [List.length_drop, List.length_take]; rfl)) ?_; (with_reducible refine (sealringref26_Of.calls a0 t1035 true _ A2.out).mono ?_); rintro e w4 ⟨v1037, rfl, ho0, hb⟩; refine ⟨_, rfl, ?_⟩; have n0_ := Aside0.mk (Kd.R_lower ho0 (below_size (by repeat (first | (with_reducible first | exact HB.out | apply below_alloc | apply pw_below_drewN | apply below_drew1) | exact HB.out)))); have n1_ := Aside0.mk (below_step (by repeat (first | (with_reducible first | exact HB.out | apply below_alloc | apply pw_below_drewN | apply below_drew1) | exact HB.out)) hb); clear HB; have HO1038 := n0_; have HB := n1_; clear n0_ n1_; (try clear hb); (try clear hb2); (try clear hk); (try clear hi); (try clear ho0)) | ((with_reducible refine gate_dst (N := 16) rfl ?_); refine Kd.R_lit Kd.string _ 9 ?hg (N := 16) ?hd (xs := ([(⟨#[97, 117, 116, 104, 95, 101, 118, 101, 110, 116, 115]⟩ : ByteArray), (⟨#[99, 111, 110, 116, 101, 110, 116]⟩ : ByteArray), (⟨#[100, 101, 112, 116, 104]⟩ : ByteArray), (⟨#[101, 118, 101, 110, 116, 95, 105, 100]⟩ : ByteArray), (⟨#[104, 97, 115, 104, 101, 115]⟩ : ByteArray), (⟨#[109, 101, 109, 98, 101, 114, 115, 104, 105, 112]⟩ : ByteArray), (⟨#[111, 114, 105, 103, 105, 110]⟩ : ByteArray), (⟨#[111, 114, 105, 103, 105, 110, 95, 115, 101, 114, 118, 101, 114, 95, 116, 115]⟩ : ByteArray), (⟨#[112, 114, 101, 118, 95, 101, 118, 101, 110, 116, 115]⟩ : ByteArray), (⟨#[112, 114, 101, 118, 95, 115, 116, 97, 116, 101]⟩ : ByteArray), (⟨#[114, 111, 111, 109, 95, 105, 100]⟩ : ByteArray), (⟨#[115, 101, 110, 100, 101, 114]⟩ : ByteArray), (⟨#[115, 105, 103, 110, 97, 116, 117, 114, 101, 115]⟩ : ByteArray), (⟨#[115, 116, 97, 116, 101, 95, 107, 101, 121]⟩ : ByteArray), (⟨#[116, 121, 112, 101]⟩ : ByteArray)] : List ByteArray)) (inner := [.string (⟨#[97, 117, 116, 104, 95, 101, 118, 101, 110, 116, 115]⟩ : ByteArray), .string (⟨#[99, 111, 110, 116, 101, 110, 116]⟩ : ByteArray), .string (⟨#[100, 101, 112, 116, 104]⟩ : ByteArray), .string (⟨#[101, 118, 101, 110, 116, 95, 105, 100]⟩ : ByteArray), .string (⟨#[104, 97, 115, 104, 101, 115]⟩ : ByteArray), .string (⟨#[109, 101, 109, 98, 101, 114, 115, 104, 105, 112]⟩ : ByteArray), .string (⟨#[111, 114, 105, 103, 105, 110]⟩ : ByteArray), .string (⟨#[111, 114, 105, 103, 105, 110, 95, 115, 101, 114, 118, 101, 114, 95, 116, 115]⟩ : ByteArray), .string (⟨#[112, 114, 101, 118, 95, 101, 118, 101, 110, 116, 115]⟩ : ByteArray), .string (⟨#[112, 114, 101, 118, 95, 115, 116, 97, 116, 101]⟩ : ByteArray), .string (⟨#[114, 111, 111, 109, 95, 105, 100]⟩ : ByteArray), .string (⟨#[115, 101, 110, 100, 101, 114]⟩ : ByteArray), .string (⟨#[115, 105, 103, 110, 97, 116, 117, 114, 101, 115]⟩ : ByteArray), .string (⟨#[115, 116, 97, 116, 101, 95, 107, 101, 121]⟩ : ByteArray), .string (⟨#[116, 121, 112, 101]⟩ : ByteArray)]) (ok := fun _ => True) (okp := fun _ => True) ?hr ?hp (fun _ hk => hk) trivial (Below.refl _ _) (Nat.le_refl _) (by simp) ?_; (case hd => rfl); (case hg => rfl); (case hr => first | (go_simp; done) | (go_simp; rfl)); (case hp => exact (Reps.one (show Kd.M Kd.string _ _ _ (⟨#[97, 117, 116, 104, 95, 101, 118, 101, 110, 116, 115]⟩ : ByteArray) [.string (⟨#[97, 117, 116, 104, 95, 101, 118, 101, 110, 116, 115]⟩ : ByteArray)] from rfl) (Reps.one (show Kd.M Kd.string _ _ _ (⟨#[99, 111, 110, 116, 101, 110, 116]⟩ : ByteArray) [.string (⟨#[99, 111, 110, 116, 101, 110, 116]⟩ : ByteArray)] from rfl) (Reps.one (show Kd.M Kd.string _ _ _ (⟨#[100, 101, 112, 116, 104]⟩ : ByteArray) [.string (⟨#[100, 101, 112, 116, 104]⟩ : ByteArray)] from rfl) (Reps.one (show Kd.M Kd.string _ _ _ (⟨#[101, 118, 101, 110, 116, 95, 105, 100]⟩ : ByteArray) [.string (⟨#[101, 118, 101, 110, 116, 95, 105, 100]⟩ : ByteArray)] from rfl) (Reps.one (show Kd.M Kd.string _ _ _ (⟨#[104, 97, 115, 104, 101, 115]⟩ : ByteArray) [.string (⟨#[104, 97, 115, 104, 101, 115]⟩ : ByteArray)] from rfl) (Reps.one (show Kd.M Kd.string _ _ _ (⟨#[109, 101, 109, 98, 101, 114, 115, 104, 105, 112]⟩ : ByteArray) [.string (⟨#[109, 101, 109, 98, 101, 114, 115, 104, 105, 112]⟩ : ByteArray)] from rfl) (Reps.one (show Kd.M Kd.string _ _ _ (⟨#[111, 114, 105, 103, 105, 110]⟩ : ByteArray) [.string (⟨#[111, 114, 105, 103, 105, 110]⟩ : ByteArray)] from rfl) (Reps.one (show Kd.M Kd.string _ _ _ (⟨#[111, 114, 105, 103, 105, 110, 95, 115, 101, 114, 118, 101, 114, 95, 116, 115]⟩ : ByteArray) [.string (⟨#[111, 114, 105, 103, 105, 110, 95, 115, 101, 114, 118, 101, 114, 95, 116, 115]⟩ : ByteArray)] from rfl) (Reps.one (show Kd.M Kd.string _ _ _ (⟨#[112, 114, 101, 118, 95, 101, 118, 101, 110, 116, 115]⟩ : ByteArray) [.string (⟨#[112, 114, 101, 118, 95, 101, 118, 101, 110, 116, 115]⟩ : ByteArray)] from rfl) (Reps.one (show Kd.M Kd.string _ _ _ (⟨#[112, 114, 101, 118, 95, 115, 116, 97, 116, 101]⟩ : ByteArray) [.string (⟨#[112, 114, 101, 118, 95, 115, 116, 97, 116, 101]⟩ : ByteArray)] from rfl) (Reps.one (show Kd.M Kd.string _ _ _ (⟨#[114, 111, 111, 109, 95, 105, 100]⟩ : ByteArray) [.string (⟨#[114, 111, 111, 109, 95, 105, 100]⟩ : ByteArray)] from rfl) (Reps.one (show Kd.M Kd.string _ _ _ (⟨#[115, 101, 110, 100, 101, 114]⟩ : ByteArray) [.string (⟨#[115, 101, 110, 100, 101, 114]⟩ : ByteArray)] from rfl) (Reps.one (show Kd.M Kd.string _ _ _ (⟨#[115, 105, 103, 110, 97, 116, 117, 114, 101, 115]⟩ : ByteArray) [.string (⟨#[115, 105, 103, 110, 97, 116, 117, 114, 101, 115]⟩ : ByteArray)] from rfl) (Reps.one (show Kd.M Kd.string _ _ _ (⟨#[115, 116, 97, 116, 101, 95, 107, 101, 121]⟩ : ByteArray) [.string (⟨#[115, 116, 97, 116, 101, 95, 107, 101, 121]⟩ : ByteArray)] from rfl) (Reps.one (show Kd.M Kd.string _ _ _ (⟨#[116, 121, 112, 101]⟩ : ByteArray) [.string (⟨#[116, 121, 112, 101]⟩ : ByteArray)] from rfl) (Reps.none _ _))))))))))))))))); intro v1040 w5 ho6 hb hg_ hnew_; clear hg_ hnew_; (first | rw [← Ny1039.out] at ho6 | (simp only [Int.reduceToNat] at ho6; rw [← Ny1039.out] at ho6)); have n0_ := Aside0.mk (Kd.R_below (by (with_reducible repeat (first | apply Kd.R_alloc | apply Kd.R_drewN | apply Kd.R_drew)); exact HO1038.out) hb); have n1_ := Aside0.mk (Kd.R_lower ho6 (below_size (by repeat (first | (with_reducible first | exact HB.out | apply below_alloc | apply pw_below_drewN | apply below_drew1) | exact HB.out)))); have n2_ := Aside0.mk (below_step (by repeat (first | (with_reducible first | exact HB.out | apply below_alloc | apply pw_below_drewN | apply below_drew1) | exact HB.out)) hb); clear HO1038; clear HB; have HO1038 := n0_; have HO1041 := n1_; have HB := n2_; clear n0_ n1_ n2_; clear hb ho6))
    go_loopg [7, 8] k (fun kq v7 v8 w' => ∃ (x7_1 : List ByteArray) (x8_1 : Int), v8 = .int .i64 x8_1 ∧ Aside0 (sealringref32_Top.l0 kq t1035 y1039 x7_1 x8_1 = some (r1, r2)) ∧ Aside0 (kq ≤ k) ∧ Aside0 (Kd.R Kd.bool 4 w' w.heap.size (fun _ => True) v1037 t1035) ∧ Aside0 (Kd.R Kd.string 9 w' w.heap.size (fun k_ => some k_ ≠ (v7 : Value).ownBlock) v1040 y1039) ∧ Aside0 (Kd.R Kd.string 9 w' w.heap.size (fun k_ => some k_ ≠ (v1040 : Value).ownBlock) v7 x7_1) ∧ Aside0 (Below w.heap.size w w'))
    case atStart => exact ⟨(([] : List ByteArray)), (0), (by first | rfl | (simp; done) | (simp [*]; done)), (by first | with_reducible exact H' | exact H' | (subst_vars; exact H')), ⟨Nat.le_refl _⟩, ⟨by (with_reducible repeat (first | apply Kd.R_alloc | apply Kd.R_drewN | apply Kd.R_drew)); exact HO1038.out⟩, ⟨by (with_reducible repeat (first | apply Kd.R_alloc | apply Kd.R_drewN | apply Kd.R_drew)); exact Kd.R_mono HO1041.out (fun _ hk => (by simp [Value.ownBlock]))⟩, ⟨by first | exact Kd.R_nil _ _ _ _ _ | exact Kd.N_nil _ _ _ _ _ | exact Kd.V_nil _ _ _ _ _ | exact Kd.Q_nil _ _ _ _ _ | exact Kd.S_nil _ _ _ _ _⟩, ⟨by repeat (first | (with_reducible first | exact HB.out | apply below_alloc | apply pw_below_drewN | apply below_drew1) | exact HB.out)⟩⟩
    case round =>
      clear H'
      try clear c1
      try clear p2
      try clear c3
      try clear c5
      obtain ⟨x7_1, x8_1, rfl, HA, HK1, HO_4, HO_6, HO_7, HB⟩ := hrel
      cases gk with
      | zero => exact absurd HA.out (by simp [sealringref32_Top.l0])
      | succ k1 =>
        have H := HA.out
        clear HA
        simp only [sealringref32_Top.l0] at H
        by_cases c7 : x8_1 < 15
        · rw [if_pos c7] at H
          have c7b0 : decide (x8_1 < 15) = true := decide_eq_true c7
          clear c7
          by_cases c8 : x8_1 = 5
          · rw [if_pos c8] at H
            have c8b0 : (x8_1 == 5) = true := beq_iff_eq.mpr c8
            have c8b1 : (x8_1 != 5) = false := bne_eq_false_iff_eq.mpr c8
            clear c8
            by_cases c9 : 6 < (t1035.length : Int)
            · rw [if_pos c9] at H
              have c9b0 : decide (6 < (t1035.length : Int)) = true := decide_eq_true c9
              have c9b1 : decide (6 < t1035.length) = true := decide_eq_true (by omega)
              clear c9
              obtain ⟨bq10, hbq10⟩ : ∃ b_ : Bool, b_ = (rdOf false t1035 6) := ⟨_, rfl⟩
              replace H : (if bq10 = true then (sealringref32_Top.l0 k1 t1035 y1039 x7_1 (wrap64 (x8_1 + 1))) else (if 0 ≤ x8_1 then (if x8_1 < (y1039.length : Int) then (if x7_1.length < 8796093022208 then (sealringref32_Top.l0 k1 t1035 y1039 (x7_1 ++ [rdOf ByteArray.empty y1039 x8_1]) (wrap64 (x8_1 + 1))) else (none)) else (none)) else (none))) = some (r1, r2) := by rw [← hbq10] at H; exact H
              have Nbq10 := Aside0.mk hbq10
              clear hbq10
              by_cases c11 : bq10 = true
              · subst c11
                have H1 : (sealringref32_Top.l0 k1 t1035 y1039 x7_1 (wrap64 (x8_1 + 1))) = some (r1, r2) := by rw [if_pos rfl] at H; exact H
                clear H
                have H := H1
                clear H1
                have H' := Aside0.mk H
                clear H
                obtain ⟨Ao12, co12, eo12⟩ := Kd.R_slice HO_4.out
                subst eo12
                have p1042 : 0 ≤ (6 : Int) := (by omega)
                have q1042 : 6 < (t1035.length : Int) := of_decide_eq_true (by first | (with_reducible assumption) | assumption)
                obtain ⟨ad1042, e1042, hx1042_0⟩ := Kd.at_bool (Kd.R_reads' HO_4.out).2.2 6 p1042 q1042
                (try rw [← Nbq10.out] at hx1042_0)
                cases e1042
                (try simp only [show (6 : Int).toNat = 6 from rfl, Nat.reduceMul, Nat.reduceEqDiff, Go.Addr.add, ↓reduceIte] at hx1042_0)
                have qi1042 : (6 < t1035.length) = True := eq_true (by omega)
                (try rw [show ((6 : Int)).toNat = 6 from rfl] at hx1042_0)
                replace p1042 := eq_true p1042
                replace q1042 := eq_true q1042
                go_wp2
                go_roundg k1
                case measure => have := HK1.out; omega
                case rel => exact ⟨(x7_1), (wrap64 (x8_1 + 1)), (by first | rfl | (simp; done) | (simp [*]; done)), (by first | with_reducible exact H' | exact H' | (subst_vars; exact H')), ⟨by have := HK1.out; omega⟩, ⟨by (with_reducible repeat (first | apply Kd.R_alloc | apply Kd.R_drewN | apply Kd.R_drew)); exact HO_4.out⟩, ⟨by (with_reducible repeat (first | apply Kd.R_alloc | apply Kd.R_drewN | apply Kd.R_drew)); exact HO_6.out⟩, ⟨by (with_reducible repeat (first | apply Kd.R_alloc | apply Kd.R_drewN | apply Kd.R_drew)); exact HO_7.out⟩, ⟨by repeat (first | (with_reducible first | exact HB.out | apply below_alloc | apply pw_below_drewN | apply below_drew1) | exact HB.out)⟩⟩
              · replace c11 := Bool.eq_false_iff.mpr c11
                subst c11
                have H1 : (if 0 ≤ x8_1 then (if x8_1 < (y1039.length : Int) then (if x7_1.length < 8796093022208 then (sealringref32_Top.l0 k1 t1035 y1039 (x7_1 ++ [rdOf ByteArray.empty y1039 x8_1]) (wrap64 (x8_1 + 1))) else (none)) else (none)) else (none)) = some (r1, r2) := by rw [if_neg (show ¬ (false = true) by decide)] at H; exact H
                clear H
                have H := H1
                clear H1
                by_cases c13 : 0 ≤ x8_1
                · rw [if_pos c13] at H
                  have c13b0 : decide (0 ≤ x8_1) = true := decide_eq_true c13
                  clear c13
                  by_cases c14 : x8_1 < (y1039.length : Int)
                  · rw [if_pos c14] at H
                    have c14b0 : decide (x8_1 < (y1039.length : Int)) = true := decide_eq_true c14
                    clear c14
                    by_cases c15 : x7_1.length < 8796093022208
                    · rw [if_pos c15] at H
                      have LMc15 := Aside0.mk c15
                      clear c15
                      obtain ⟨y1044, hy1044⟩ : ∃ y_ : List ByteArray, y_ = (x7_1 ++ [rdOf ByteArray.empty y1039 x8_1]) := ⟨_, rfl⟩
                      replace H : (sealringref32_Top.l0 k1 t1035 y1039 y1044 (wrap64 (x8_1 + 1))) = some (r1, r2) := by first | (rw [hy1044]; with_reducible exact H) | (have H2_ := (Option.bind_some _ _).symm.trans H; rw [hy1044]; with_reducible exact H2_) | (have H2_ := (Option.bind_some _ _).symm.trans H; with_reducible exact H2_) | with_reducible exact H | (rw [hy1044]; exact H) | exact H
                      have Ny1044 := Aside0.mk hy1044
                      clear hy1044
                      have H' := Aside0.mk H
                      clear H
                      obtain ⟨Ao16, co16, eo16⟩ := Kd.R_slice HO_4.out
                      subst eo16
                      have p1042 : 0 ≤ (6 : Int) := (by omega)
                      have q1042 : 6 < (t1035.length : Int) := of_decide_eq_true (by first | (with_reducible assumption) | assumption)
                      obtain ⟨ad1042, e1042, hx1042_0⟩ := Kd.at_bool (Kd.R_reads' HO_4.out).2.2 6 p1042 q1042
                      (try rw [← Nbq10.out] at hx1042_0)
                      cases e1042
                      (try simp only [show (6 : Int).toNat = 6 from rfl, Nat.reduceMul, Nat.reduceEqDiff, Go.Addr.add, ↓reduceIte] at hx1042_0)
                      have qi1042 : (6 < t1035.length) = True := eq_true (by omega)
                      (try rw [show ((6 : Int)).toNat = 6 from rfl] at hx1042_0)
                      replace p1042 := eq_true p1042
                      replace q1042 := eq_true q1042
                      obtain ⟨Ao17, co17, eo17⟩ := Kd.R_slice HO_6.out
                      subst eo17
                      have p1043 : 0 ≤ (x8_1 : Int) := of_decide_eq_true (by first | (with_reducible assumption) | assumption)
                      have q1043 : x8_1 < (y1039.length : Int) := of_decide_eq_true (by first | (with_reducible assumption) | assumption)
                      obtain ⟨ad1043, e1043, hx1043_0⟩ := Kd.at_string (Kd.R_reads' HO_6.out).2.2 x8_1 p1043 q1043
                      cases e1043
                      replace p1043 := eq_true p1043
                      replace q1043 := eq_true q1043
                      go_wp2_with (first | ((with_reducible refine gate_builtin (b := .append) (xs := #[.tmp 37, .tmp 42]) rfl ?_); at_builtin; refine Kd.R_append Kd.string (w0 := w) w.heap.size rfl (.tmp 37) (.tmp 42) 22 9 (.string ⟨#[]⟩) 16 rfl Try.underlying22 info9 rfl (by decide) (by omega) u7 x7_1 (rdOf ByteArray.empty y1039 x8_1) [.string (rdOf ByteArray.empty y1039 x8_1)] (fun k_ => some k_ ≠ (.slice (some ad1043) y1039.length co17 : Value).ownBlock) (fun _ => False) rfl rfl ?aP (fun _ hk => hk.elim) ?aF ?aO ?aB ?aS ?aL ?_; (case aP => exact rfl); (case aB => exact (by repeat (first | (with_reducible first | exact HB.out | apply below_alloc | apply pw_below_drewN | apply below_drew1) | exact HB.out))); (case aF => exact (fun k_ hk => Kd.fresh' (Kd.R_lt (by (with_reducible repeat (first | apply Kd.R_alloc | apply Kd.R_drewN | apply Kd.R_drew)); exact HO_6.out)) k_ hk)); (case aO => exact (by (with_reducible repeat (first | apply Kd.R_alloc | apply Kd.R_drewN | apply Kd.R_drew)); exact HO_7.out)); (case aS => exact (below_size (by repeat (first | (with_reducible first | exact HB.out | apply below_alloc | apply pw_below_drewN | apply below_drew1) | exact HB.out)))); (case aL => have := LMc15.out; omega); intro v1045 w18 ho hb hg hat; rw [← Ny1044.out] at ho; have n0_ := Aside0.mk (Kd.R_over' (by (with_reducible repeat (first | apply Kd.R_alloc | apply Kd.R_drewN | apply Kd.R_drew)); exact HO_4.out) (Kd.R_typed (by (with_reducible repeat (first | apply Kd.R_alloc | apply Kd.R_drewN | apply Kd.R_drew)); exact HO_7.out)) (by decide) hg); have n1_ := Aside0.mk (Kd.R_after (ok := (fun _ => True)) (by (with_reducible repeat (first | apply Kd.R_alloc | apply Kd.R_drewN | apply Kd.R_drew)); exact Kd.R_mono HO_6.out (fun _ hk => ⟨trivial, hk⟩)) hg hat); have n2_ := Aside0.mk (hb); have n3_ := Aside0.mk (ho); clear HO_4; clear HO_6; clear HB; clear HO_7; have HO_4 := n0_; have HO_6 := n1_; have HB := n2_; have HO1046 := n3_; clear n0_ n1_ n2_ n3_; clear ho hb hg hat))
                      go_roundg k1
                      case measure => have := HK1.out; omega
                      case rel => exact ⟨(y1044), (wrap64 (x8_1 + 1)), (by first | rfl | (simp; done) | (simp [*]; done)), (by first | with_reducible exact H' | exact H' | (subst_vars; exact H')), ⟨by have := HK1.out; omega⟩, ⟨by (with_reducible repeat (first | apply Kd.R_alloc | apply Kd.R_drewN | apply Kd.R_drew)); exact HO_4.out⟩, ⟨by (with_reducible repeat (first | apply Kd.R_alloc | apply Kd.R_drewN | apply Kd.R_drew)); exact Kd.R_mono HO_6.out (fun _ hk => hk.2)⟩, ⟨by (with_reducible repeat (first | apply Kd.R_alloc | apply Kd.R_drewN | apply Kd.R_drew)); exact HO1046.out⟩, ⟨by repeat (first | (with_reducible first | exact HB.out | apply below_alloc | apply pw_below_drewN | apply below_drew1) | exact HB.out)⟩⟩
                    · rw [if_neg c15] at H
                      exact absurd H (by simp)
                  · rw [if_neg c14] at H
                    exact absurd H (by simp)
                · rw [if_neg c13] at H
                  exact absurd H (by simp)
            · rw [if_neg c9] at H
              exact absurd H (by simp)
          · rw [if_neg c8] at H
            have c8b0 : (x8_1 == 5) = false := beq_eq_false_iff_ne.mpr c8
            have c8b1 : (x8_1 != 5) = true := bne_iff_ne.mpr c8
            by_cases c19 : x8_1 = 6
            · rw [if_pos c19] at H
              have c19b0 : (x8_1 == 6) = true := beq_iff_eq.mpr c19
              have c19b1 : (x8_1 != 6) = false := bne_eq_false_iff_eq.mpr c19
              clear c19
              by_cases c20 : 6 < (t1035.length : Int)
              · rw [if_pos c20] at H
                have c20b0 : decide (6 < (t1035.length : Int)) = true := decide_eq_true c20
                have c20b1 : decide (6 < t1035.length) = true := decide_eq_true (by omega)
                clear c20
                obtain ⟨bq21, hbq21⟩ : ∃ b_ : Bool, b_ = (rdOf false t1035 6) := ⟨_, rfl⟩
                replace H : (if bq21 = true then (sealringref32_Top.l0 k1 t1035 y1039 x7_1 (wrap64 (x8_1 + 1))) else (if 0 ≤ x8_1 then (if x8_1 < (y1039.length : Int) then (if x7_1.length < 8796093022208 then (sealringref32_Top.l0 k1 t1035 y1039 (x7_1 ++ [rdOf ByteArray.empty y1039 x8_1]) (wrap64 (x8_1 + 1))) else (none)) else (none)) else (none))) = some (r1, r2) := by rw [← hbq21] at H; exact H
                have Nbq21 := Aside0.mk hbq21
                clear hbq21
                by_cases c22 : bq21 = true
                · subst c22
                  have H1 : (sealringref32_Top.l0 k1 t1035 y1039 x7_1 (wrap64 (x8_1 + 1))) = some (r1, r2) := by rw [if_pos rfl] at H; exact H
                  clear H
                  have H := H1
                  clear H1
                  have H' := Aside0.mk H
                  clear H
                  obtain ⟨Ao23, co23, eo23⟩ := Kd.R_slice HO_4.out
                  subst eo23
                  have p1047 : 0 ≤ (6 : Int) := (by omega)
                  have q1047 : 6 < (t1035.length : Int) := of_decide_eq_true (by first | (with_reducible assumption) | assumption)
                  obtain ⟨ad1047, e1047, hx1047_0⟩ := Kd.at_bool (Kd.R_reads' HO_4.out).2.2 6 p1047 q1047
                  (try rw [← Nbq21.out] at hx1047_0)
                  cases e1047
                  (try simp only [show (6 : Int).toNat = 6 from rfl, Nat.reduceMul, Nat.reduceEqDiff, Go.Addr.add, ↓reduceIte] at hx1047_0)
                  have qi1047 : (6 < t1035.length) = True := eq_true (by omega)
                  (try rw [show ((6 : Int)).toNat = 6 from rfl] at hx1047_0)
                  replace p1047 := eq_true p1047
                  replace q1047 := eq_true q1047
                  go_wp2
                  go_roundg k1
                  case measure => have := HK1.out; omega
                  case rel => exact ⟨(x7_1), (wrap64 (x8_1 + 1)), (by first | rfl | (simp; done) | (simp [*]; done)), (by first | with_reducible exact H' | exact H' | (subst_vars; exact H')), ⟨by have := HK1.out; omega⟩, ⟨by (with_reducible repeat (first | apply Kd.R_alloc | apply Kd.R_drewN | apply Kd.R_drew)); exact HO_4.out⟩, ⟨by (with_reducible repeat (first | apply Kd.R_alloc | apply Kd.R_drewN | apply Kd.R_drew)); exact HO_6.out⟩, ⟨by (with_reducible repeat (first | apply Kd.R_alloc | apply Kd.R_drewN | apply Kd.R_drew)); exact HO_7.out⟩, ⟨by repeat (first | (with_reducible first | exact HB.out | apply below_alloc | apply pw_below_drewN | apply below_drew1) | exact HB.out)⟩⟩
                · replace c22 := Bool.eq_false_iff.mpr c22
                  subst c22
                  have H1 : (if 0 ≤ x8_1 then (if x8_1 < (y1039.length : Int) then (if x7_1.length < 8796093022208 then (sealringref32_Top.l0 k1 t1035 y1039 (x7_1 ++ [rdOf ByteArray.empty y1039 x8_1]) (wrap64 (x8_1 + 1))) else (none)) else (none)) else (none)) = some (r1, r2) := by rw [if_neg (show ¬ (false = true) by decide)] at H; exact H
                  clear H
                  have H := H1
                  clear H1
                  by_cases c24 : 0 ≤ x8_1
                  · rw [if_pos c24] at H
                    have c24b0 : decide (0 ≤ x8_1) = true := decide_eq_true c24
                    clear c24
                    by_cases c25 : x8_1 < (y1039.length : Int)
                    · rw [if_pos c25] at H
                      have c25b0 : decide (x8_1 < (y1039.length : Int)) = true := decide_eq_true c25
                      clear c25
                      by_cases c26 : x7_1.length < 8796093022208
                      · rw [if_pos c26] at H
                        have LMc26 := Aside0.mk c26
                        clear c26
                        obtain ⟨y1049, hy1049⟩ : ∃ y_ : List ByteArray, y_ = (x7_1 ++ [rdOf ByteArray.empty y1039 x8_1]) := ⟨_, rfl⟩
                        replace H : (sealringref32_Top.l0 k1 t1035 y1039 y1049 (wrap64 (x8_1 + 1))) = some (r1, r2) := by first | (rw [hy1049]; with_reducible exact H) | (have H2_ := (Option.bind_some _ _).symm.trans H; rw [hy1049]; with_reducible exact H2_) | (have H2_ := (Option.bind_some _ _).symm.trans H; with_reducible exact H2_) | with_reducible exact H | (rw [hy1049]; exact H) | exact H
                        have Ny1049 := Aside0.mk hy1049
                        clear hy1049
                        have H' := Aside0.mk H
                        clear H
                        obtain ⟨Ao27, co27, eo27⟩ := Kd.R_slice HO_4.out
                        subst eo27
                        have p1047 : 0 ≤ (6 : Int) := (by omega)
                        have q1047 : 6 < (t1035.length : Int) := of_decide_eq_true (by first | (with_reducible assumption) | assumption)
                        obtain ⟨ad1047, e1047, hx1047_0⟩ := Kd.at_bool (Kd.R_reads' HO_4.out).2.2 6 p1047 q1047
                        (try rw [← Nbq21.out] at hx1047_0)
                        cases e1047
                        (try simp only [show (6 : Int).toNat = 6 from rfl, Nat.reduceMul, Nat.reduceEqDiff, Go.Addr.add, ↓reduceIte] at hx1047_0)
                        have qi1047 : (6 < t1035.length) = True := eq_true (by omega)
                        (try rw [show ((6 : Int)).toNat = 6 from rfl] at hx1047_0)
                        replace p1047 := eq_true p1047
                        replace q1047 := eq_true q1047
                        obtain ⟨Ao28, co28, eo28⟩ := Kd.R_slice HO_6.out
                        subst eo28
                        have p1048 : 0 ≤ (x8_1 : Int) := of_decide_eq_true (by first | (with_reducible assumption) | assumption)
                        have q1048 : x8_1 < (y1039.length : Int) := of_decide_eq_true (by first | (with_reducible assumption) | assumption)
                        obtain ⟨ad1048, e1048, hx1048_0⟩ := Kd.at_string (Kd.R_reads' HO_6.out).2.2 x8_1 p1048 q1048
                        cases e1048
                        replace p1048 := eq_true p1048
                        replace q1048 := eq_true q1048
                        go_wp2_with (first | ((with_reducible refine gate_builtin (b := .append) (xs := #[.tmp 37, .tmp 42]) rfl ?_); at_builtin; refine Kd.R_append Kd.string (w0 := w) w.heap.size rfl (.tmp 37) (.tmp 42) 22 9 (.string ⟨#[]⟩) 16 rfl Try.underlying22 info9 rfl (by decide) (by omega) u7 x7_1 (rdOf ByteArray.empty y1039 x8_1) [.string (rdOf ByteArray.empty y1039 x8_1)] (fun k_ => some k_ ≠ (.slice (some ad1048) y1039.length co28 : Value).ownBlock) (fun _ => False) rfl rfl ?aP (fun _ hk => hk.elim) ?aF ?aO ?aB ?aS ?aL ?_; (case aP => exact rfl); (case aB => exact (by repeat (first | (with_reducible first | exact HB.out | apply below_alloc | apply pw_below_drewN | apply below_drew1) | exact HB.out))); (case aF => exact (fun k_ hk => Kd.fresh' (Kd.R_lt (by (with_reducible repeat (first | apply Kd.R_alloc | apply Kd.R_drewN | apply Kd.R_drew)); exact HO_6.out)) k_ hk)); (case aO => exact (by (with_reducible repeat (first | apply Kd.R_alloc | apply Kd.R_drewN | apply Kd.R_drew)); exact HO_7.out)); (case aS => exact (below_size (by repeat (first | (with_reducible first | exact HB.out | apply below_alloc | apply pw_below_drewN | apply below_drew1) | exact HB.out)))); (case aL => have := LMc26.out; omega); intro v1050 w29 ho hb hg hat; rw [← Ny1049.out] at ho; have n0_ := Aside0.mk (Kd.R_over' (by (with_reducible repeat (first | apply Kd.R_alloc | apply Kd.R_drewN | apply Kd.R_drew)); exact HO_4.out) (Kd.R_typed (by (with_reducible repeat (first | apply Kd.R_alloc | apply Kd.R_drewN | apply Kd.R_drew)); exact HO_7.out)) (by decide) hg); have n1_ := Aside0.mk (Kd.R_after (ok := (fun _ => True)) (by (with_reducible repeat (first | apply Kd.R_alloc | apply Kd.R_drewN | apply Kd.R_drew)); exact Kd.R_mono HO_6.out (fun _ hk => ⟨trivial, hk⟩)) hg hat); have n2_ := Aside0.mk (hb); have n3_ := Aside0.mk (ho); clear HO_4; clear HO_6; clear HB; clear HO_7; have HO_4 := n0_; have HO_6 := n1_; have HB := n2_; have HO1051 := n3_; clear n0_ n1_ n2_ n3_; clear ho hb hg hat))
                        go_roundg k1
                        case measure => have := HK1.out; omega
                        case rel => exact ⟨(y1049), (wrap64 (x8_1 + 1)), (by first | rfl | (simp; done) | (simp [*]; done)), (by first | with_reducible exact H' | exact H' | (subst_vars; exact H')), ⟨by have := HK1.out; omega⟩, ⟨by (with_reducible repeat (first | apply Kd.R_alloc | apply Kd.R_drewN | apply Kd.R_drew)); exact HO_4.out⟩, ⟨by (with_reducible repeat (first | apply Kd.R_alloc | apply Kd.R_drewN | apply Kd.R_drew)); exact Kd.R_mono HO_6.out (fun _ hk => hk.2)⟩, ⟨by (with_reducible repeat (first | apply Kd.R_alloc | apply Kd.R_drewN | apply Kd.R_drew)); exact HO1051.out⟩, ⟨by repeat (first | (with_reducible first | exact HB.out | apply below_alloc | apply pw_below_drewN | apply below_drew1) | exact HB.out)⟩⟩
                      · rw [if_neg c26] at H
                        exact absurd H (by simp)
                    · rw [if_neg c25] at H
                      exact absurd H (by simp)
                  · rw [if_neg c24] at H
                    exact absurd H (by simp)
              · rw [if_neg c20] at H
                exact absurd H (by simp)
            · rw [if_neg c19] at H
              have c19b0 : (x8_1 == 6) = false := beq_eq_false_iff_ne.mpr c19
              have c19b1 : (x8_1 != 6) = true := bne_iff_ne.mpr c19
              by_cases c30 : x8_1 = 9
              · rw [if_pos c30] at H
                have c30b0 : (x8_1 == 9) = true := beq_iff_eq.mpr c30
                have c30b1 : (x8_1 != 9) = false := bne_eq_false_iff_eq.mpr c30
                clear c30
                by_cases c31 : 6 < (t1035.length : Int)
                · rw [if_pos c31] at H
                  have c31b0 : decide (6 < (t1035.length : Int)) = true := decide_eq_true c31
                  have c31b1 : decide (6 < t1035.length) = true := decide_eq_true (by omega)
                  clear c31
                  obtain ⟨bq32, hbq32⟩ : ∃ b_ : Bool, b_ = (rdOf false t1035 6) := ⟨_, rfl⟩
                  replace H : (if bq32 = true then (sealringref32_Top.l0 k1 t1035 y1039 x7_1 (wrap64 (x8_1 + 1))) else (if 0 ≤ x8_1 then (if x8_1 < (y1039.length : Int) then (if x7_1.length < 8796093022208 then (sealringref32_Top.l0 k1 t1035 y1039 (x7_1 ++ [rdOf ByteArray.empty y1039 x8_1]) (wrap64 (x8_1 + 1))) else (none)) else (none)) else (none))) = some (r1, r2) := by rw [← hbq32] at H; exact H
                  have Nbq32 := Aside0.mk hbq32
                  clear hbq32
                  by_cases c33 : bq32 = true
                  · subst c33
                    have H1 : (sealringref32_Top.l0 k1 t1035 y1039 x7_1 (wrap64 (x8_1 + 1))) = some (r1, r2) := by rw [if_pos rfl] at H; exact H
                    clear H
                    have H := H1
                    clear H1
                    have H' := Aside0.mk H
                    clear H
                    obtain ⟨Ao34, co34, eo34⟩ := Kd.R_slice HO_4.out
                    subst eo34
                    have p1052 : 0 ≤ (6 : Int) := (by omega)
                    have q1052 : 6 < (t1035.length : Int) := of_decide_eq_true (by first | (with_reducible assumption) | assumption)
                    obtain ⟨ad1052, e1052, hx1052_0⟩ := Kd.at_bool (Kd.R_reads' HO_4.out).2.2 6 p1052 q1052
                    (try rw [← Nbq32.out] at hx1052_0)
                    cases e1052
                    (try simp only [show (6 : Int).toNat = 6 from rfl, Nat.reduceMul, Nat.reduceEqDiff, Go.Addr.add, ↓reduceIte] at hx1052_0)
                    have qi1052 : (6 < t1035.length) = True := eq_true (by omega)
                    (try rw [show ((6 : Int)).toNat = 6 from rfl] at hx1052_0)
                    replace p1052 := eq_true p1052
                    replace q1052 := eq_true q1052
                    go_wp2
                    go_roundg k1
                    case measure => have := HK1.out; omega
                    case rel => exact ⟨(x7_1), (wrap64 (x8_1 + 1)), (by first | rfl | (simp; done) | (simp [*]; done)), (by first | with_reducible exact H' | exact H' | (subst_vars; exact H')), ⟨by have := HK1.out; omega⟩, ⟨by (with_reducible repeat (first | apply Kd.R_alloc | apply Kd.R_drewN | apply Kd.R_drew)); exact HO_4.out⟩, ⟨by (with_reducible repeat (first | apply Kd.R_alloc | apply Kd.R_drewN | apply Kd.R_drew)); exact HO_6.out⟩, ⟨by (with_reducible repeat (first | apply Kd.R_alloc | apply Kd.R_drewN | apply Kd.R_drew)); exact HO_7.out⟩, ⟨by repeat (first | (with_reducible first | exact HB.out | apply below_alloc | apply pw_below_drewN | apply below_drew1) | exact HB.out)⟩⟩
                  · replace c33 := Bool.eq_false_iff.mpr c33
                    subst c33
                    have H1 : (if 0 ≤ x8_1 then (if x8_1 < (y1039.length : Int) then (if x7_1.length < 8796093022208 then (sealringref32_Top.l0 k1 t1035 y1039 (x7_1 ++ [rdOf ByteArray.empty y1039 x8_1]) (wrap64 (x8_1 + 1))) else (none)) else (none)) else (none)) = some (r1, r2) := by rw [if_neg (show ¬ (false = true) by decide)] at H; exact H
                    clear H
                    have H := H1
                    clear H1
                    by_cases c35 : 0 ≤ x8_1
                    · rw [if_pos c35] at H
                      have c35b0 : decide (0 ≤ x8_1) = true := decide_eq_true c35
                      clear c35
                      by_cases c36 : x8_1 < (y1039.length : Int)
                      · rw [if_pos c36] at H
                        have c36b0 : decide (x8_1 < (y1039.length : Int)) = true := decide_eq_true c36
                        clear c36
                        by_cases c37 : x7_1.length < 8796093022208
                        · rw [if_pos c37] at H
                          have LMc37 := Aside0.mk c37
                          clear c37
                          obtain ⟨y1054, hy1054⟩ : ∃ y_ : List ByteArray, y_ = (x7_1 ++ [rdOf ByteArray.empty y1039 x8_1]) := ⟨_, rfl⟩
                          replace H : (sealringref32_Top.l0 k1 t1035 y1039 y1054 (wrap64 (x8_1 + 1))) = some (r1, r2) := by first | (rw [hy1054]; with_reducible exact H) | (have H2_ := (Option.bind_some _ _).symm.trans H; rw [hy1054]; with_reducible exact H2_) | (have H2_ := (Option.bind_some _ _).symm.trans H; with_reducible exact H2_) | with_reducible exact H | (rw [hy1054]; exact H) | exact H
                          have Ny1054 := Aside0.mk hy1054
                          clear hy1054
                          have H' := Aside0.mk H
                          clear H
                          obtain ⟨Ao38, co38, eo38⟩ := Kd.R_slice HO_4.out
                          subst eo38
                          have p1052 : 0 ≤ (6 : Int) := (by omega)
                          have q1052 : 6 < (t1035.length : Int) := of_decide_eq_true (by first | (with_reducible assumption) | assumption)
                          obtain ⟨ad1052, e1052, hx1052_0⟩ := Kd.at_bool (Kd.R_reads' HO_4.out).2.2 6 p1052 q1052
                          (try rw [← Nbq32.out] at hx1052_0)
                          cases e1052
                          (try simp only [show (6 : Int).toNat = 6 from rfl, Nat.reduceMul, Nat.reduceEqDiff, Go.Addr.add, ↓reduceIte] at hx1052_0)
                          have qi1052 : (6 < t1035.length) = True := eq_true (by omega)
                          (try rw [show ((6 : Int)).toNat = 6 from rfl] at hx1052_0)
                          replace p1052 := eq_true p1052
                          replace q1052 := eq_true q1052
                          obtain ⟨Ao39, co39, eo39⟩ := Kd.R_slice HO_6.out
                          subst eo39
                          have p1053 : 0 ≤ (x8_1 : Int) := of_decide_eq_true (by first | (with_reducible assumption) | assumption)
                          have q1053 : x8_1 < (y1039.length : Int) := of_decide_eq_true (by first | (with_reducible assumption) | assumption)
                          obtain ⟨ad1053, e1053, hx1053_0⟩ := Kd.at_string (Kd.R_reads' HO_6.out).2.2 x8_1 p1053 q1053
                          cases e1053
                          replace p1053 := eq_true p1053
                          replace q1053 := eq_true q1053
                          go_wp2_with (first | ((with_reducible refine gate_builtin (b := .append) (xs := #[.tmp 37, .tmp 42]) rfl ?_); at_builtin; refine Kd.R_append Kd.string (w0 := w) w.heap.size rfl (.tmp 37) (.tmp 42) 22 9 (.string ⟨#[]⟩) 16 rfl Try.underlying22 info9 rfl (by decide) (by omega) u7 x7_1 (rdOf ByteArray.empty y1039 x8_1) [.string (rdOf ByteArray.empty y1039 x8_1)] (fun k_ => some k_ ≠ (.slice (some ad1053) y1039.length co39 : Value).ownBlock) (fun _ => False) rfl rfl ?aP (fun _ hk => hk.elim) ?aF ?aO ?aB ?aS ?aL ?_; (case aP => exact rfl); (case aB => exact (by repeat (first | (with_reducible first | exact HB.out | apply below_alloc | apply pw_below_drewN | apply below_drew1) | exact HB.out))); (case aF => exact (fun k_ hk => Kd.fresh' (Kd.R_lt (by (with_reducible repeat (first | apply Kd.R_alloc | apply Kd.R_drewN | apply Kd.R_drew)); exact HO_6.out)) k_ hk)); (case aO => exact (by (with_reducible repeat (first | apply Kd.R_alloc | apply Kd.R_drewN | apply Kd.R_drew)); exact HO_7.out)); (case aS => exact (below_size (by repeat (first | (with_reducible first | exact HB.out | apply below_alloc | apply pw_below_drewN | apply below_drew1) | exact HB.out)))); (case aL => have := LMc37.out; omega); intro v1055 w40 ho hb hg hat; rw [← Ny1054.out] at ho; have n0_ := Aside0.mk (Kd.R_over' (by (with_reducible repeat (first | apply Kd.R_alloc | apply Kd.R_drewN | apply Kd.R_drew)); exact HO_4.out) (Kd.R_typed (by (with_reducible repeat (first | apply Kd.R_alloc | apply Kd.R_drewN | apply Kd.R_drew)); exact HO_7.out)) (by decide) hg); have n1_ := Aside0.mk (Kd.R_after (ok := (fun _ => True)) (by (with_reducible repeat (first | apply Kd.R_alloc | apply Kd.R_drewN | apply Kd.R_drew)); exact Kd.R_mono HO_6.out (fun _ hk => ⟨trivial, hk⟩)) hg hat); have n2_ := Aside0.mk (hb); have n3_ := Aside0.mk (ho); clear HO_4; clear HO_6; clear HB; clear HO_7; have HO_4 := n0_; have HO_6 := n1_; have HB := n2_; have HO1056 := n3_; clear n0_ n1_ n2_ n3_; clear ho hb hg hat))
                          go_roundg k1
                          case measure => have := HK1.out; omega
                          case rel => exact ⟨(y1054), (wrap64 (x8_1 + 1)), (by first | rfl | (simp; done) | (simp [*]; done)), (by first | with_reducible exact H' | exact H' | (subst_vars; exact H')), ⟨by have := HK1.out; omega⟩, ⟨by (with_reducible repeat (first | apply Kd.R_alloc | apply Kd.R_drewN | apply Kd.R_drew)); exact HO_4.out⟩, ⟨by (with_reducible repeat (first | apply Kd.R_alloc | apply Kd.R_drewN | apply Kd.R_drew)); exact Kd.R_mono HO_6.out (fun _ hk => hk.2)⟩, ⟨by (with_reducible repeat (first | apply Kd.R_alloc | apply Kd.R_drewN | apply Kd.R_drew)); exact HO1056.out⟩, ⟨by repeat (first | (with_reducible first | exact HB.out | apply below_alloc | apply pw_below_drewN | apply below_drew1) | exact HB.out)⟩⟩
                        · rw [if_neg c37] at H
                          exact absurd H (by simp)
                      · rw [if_neg c36] at H
                        exact absurd H (by simp)
                    · rw [if_neg c35] at H
                      exact absurd H (by simp)
                · rw [if_neg c31] at H
                  exact absurd H (by simp)
              · rw [if_neg c30] at H
                have c30b0 : (x8_1 == 9) = false := beq_eq_false_iff_ne.mpr c30
                have c30b1 : (x8_1 != 9) = true := bne_iff_ne.mpr c30
                by_cases c41 : 0 ≤ x8_1
                · rw [if_pos c41] at H
                  have c41b0 : decide (0 ≤ x8_1) = true := decide_eq_true c41
                  clear c41
                  by_cases c42 : x8_1 < (y1039.length : Int)
                  · rw [if_pos c42] at H
                    have c42b0 : decide (x8_1 < (y1039.length : Int)) = true := decide_eq_true c42
                    clear c42
                    by_cases c43 : x7_1.length < 8796093022208
                    · rw [if_pos c43] at H
                      have LMc43 := Aside0.mk c43
                      clear c43
                      obtain ⟨y1058, hy1058⟩ : ∃ y_ : List ByteArray, y_ = (x7_1 ++ [rdOf ByteArray.empty y1039 x8_1]) := ⟨_, rfl⟩
                      replace H : (sealringref32_Top.l0 k1 t1035 y1039 y1058 (wrap64 (x8_1 + 1))) = some (r1, r2) := by first | (rw [hy1058]; with_reducible exact H) | (have H2_ := (Option.bind_some _ _).symm.trans H; rw [hy1058]; with_reducible exact H2_) | (have H2_ := (Option.bind_some _ _).symm.trans H; with_reducible exact H2_) | with_reducible exact H | (rw [hy1058]; exact H) | exact H
                      have Ny1058 := Aside0.mk hy1058
                      clear hy1058
                      have H' := Aside0.mk H
                      clear H
                      obtain ⟨Ao44, co44, eo44⟩ := Kd.R_slice HO_6.out
                      subst eo44
                      have p1057 : 0 ≤ (x8_1 : Int) := of_decide_eq_true (by first | (with_reducible assumption) | assumption)
                      have q1057 : x8_1 < (y1039.length : Int) := of_decide_eq_true (by first | (with_reducible assumption) | assumption)
                      obtain ⟨ad1057, e1057, hx1057_0⟩ := Kd.at_string (Kd.R_reads' HO_6.out).2.2 x8_1 p1057 q1057
                      cases e1057
                      replace p1057 := eq_true p1057
                      replace q1057 := eq_true q1057
                      go_wp2_with (first | ((with_reducible refine gate_builtin (b := .append) (xs := #[.tmp 37, .tmp 42]) rfl ?_); at_builtin; refine Kd.R_append Kd.string (w0 := w) w.heap.size rfl (.tmp 37) (.tmp 42) 22 9 (.string ⟨#[]⟩) 16 rfl Try.underlying22 info9 rfl (by decide) (by omega) u7 x7_1 (rdOf ByteArray.empty y1039 x8_1) [.string (rdOf ByteArray.empty y1039 x8_1)] (fun k_ => some k_ ≠ (.slice (some ad1057) y1039.length co44 : Value).ownBlock) (fun _ => False) rfl rfl ?aP (fun _ hk => hk.elim) ?aF ?aO ?aB ?aS ?aL ?_; (case aP => exact rfl); (case aB => exact (by repeat (first | (with_reducible first | exact HB.out | apply below_alloc | apply pw_below_drewN | apply below_drew1) | exact HB.out))); (case aF => exact (fun k_ hk => Kd.fresh' (Kd.R_lt (by (with_reducible repeat (first | apply Kd.R_alloc | apply Kd.R_drewN | apply Kd.R_drew)); exact HO_6.out)) k_ hk)); (case aO => exact (by (with_reducible repeat (first | apply Kd.R_alloc | apply Kd.R_drewN | apply Kd.R_drew)); exact HO_7.out)); (case aS => exact (below_size (by repeat (first | (with_reducible first | exact HB.out | apply below_alloc | apply pw_below_drewN | apply below_drew1) | exact HB.out)))); (case aL => have := LMc43.out; omega); intro v1059 w45 ho hb hg hat; rw [← Ny1058.out] at ho; have n0_ := Aside0.mk (Kd.R_over' (by (with_reducible repeat (first | apply Kd.R_alloc | apply Kd.R_drewN | apply Kd.R_drew)); exact HO_4.out) (Kd.R_typed (by (with_reducible repeat (first | apply Kd.R_alloc | apply Kd.R_drewN | apply Kd.R_drew)); exact HO_7.out)) (by decide) hg); have n1_ := Aside0.mk (Kd.R_after (ok := (fun _ => True)) (by (with_reducible repeat (first | apply Kd.R_alloc | apply Kd.R_drewN | apply Kd.R_drew)); exact Kd.R_mono HO_6.out (fun _ hk => ⟨trivial, hk⟩)) hg hat); have n2_ := Aside0.mk (hb); have n3_ := Aside0.mk (ho); clear HO_4; clear HO_6; clear HB; clear HO_7; have HO_4 := n0_; have HO_6 := n1_; have HB := n2_; have HO1060 := n3_; clear n0_ n1_ n2_ n3_; clear ho hb hg hat))
                      go_roundg k1
                      case measure => have := HK1.out; omega
                      case rel => exact ⟨(y1058), (wrap64 (x8_1 + 1)), (by first | rfl | (simp; done) | (simp [*]; done)), (by first | with_reducible exact H' | exact H' | (subst_vars; exact H')), ⟨by have := HK1.out; omega⟩, ⟨by (with_reducible repeat (first | apply Kd.R_alloc | apply Kd.R_drewN | apply Kd.R_drew)); exact HO_4.out⟩, ⟨by (with_reducible repeat (first | apply Kd.R_alloc | apply Kd.R_drewN | apply Kd.R_drew)); exact Kd.R_mono HO_6.out (fun _ hk => hk.2)⟩, ⟨by (with_reducible repeat (first | apply Kd.R_alloc | apply Kd.R_drewN | apply Kd.R_drew)); exact HO1060.out⟩, ⟨by repeat (first | (with_reducible first | exact HB.out | apply below_alloc | apply pw_below_drewN | apply below_drew1) | exact HB.out)⟩⟩
                    · rw [if_neg c43] at H
                      exact absurd H (by simp)
                  · rw [if_neg c42] at H
                    exact absurd H (by simp)
                · rw [if_neg c41] at H
                  exact absurd H (by simp)
        · rw [if_neg c7] at H
          have c7b0 : decide (x8_1 < 15) = false := decide_eq_false c7
          clear c7
          simp only [Option.some.injEq, Prod.mk.injEq] at H
          obtain ⟨rfl, rfl⟩ := H
          go_wp2
          go_ret2
          exact ⟨_, by first | rfl | (simp [errW_none, errW_some] <;> rfl) | (simp [*, errW_none, errW_some] <;> rfl), by (with_reducible repeat (first | apply Kd.R_alloc | apply Kd.R_drewN | apply Kd.R_drew)); exact Kd.R_mono HO_7.out (fun _ hk => trivial), by repeat (first | (with_reducible first | exact HB.out | apply below_alloc | apply pw_below_drewN | apply below_drew1) | exact HB.out)⟩
  · replace c3 := Bool.eq_false_iff.mpr c3
    subst c3
    have H1 : (some (([] : List ByteArray), false)) = some (r1, r2) := by rw [if_neg (show ¬ (false = true) by decide)] at H; exact H
    clear H
    have H := H1
    clear H1
    simp only [Option.some.injEq, Prod.mk.injEq] at H
    obtain ⟨rfl, rfl⟩ := H
    go_enter Try.func53, Try.ntmps53
    go_wp2_with (first | ((with_reducible refine gate_callee (f := 102) rfl ?_); refine goesL_ (some 11) rfl rfl Try.func102 (by kernel_rfl) rfl #[.int .i64 a0] rfl (by (try simp only [List.map_toArray, List.map_cons, List.map_nil]); first | done | rfl | (simp only [List.length_drop, List.length_take]; rfl)) ?_; (with_reducible refine (sealringref26_Of.calls a0 t1035 false _ A2.out).mono ?_); rintro e w46 ⟨v1037, rfl, ho0, hb⟩; refine ⟨_, rfl, ?_⟩; have n0_ := Aside0.mk (Kd.R_lower ho0 (below_size (by repeat (first | (with_reducible first | exact HB.out | apply below_alloc | apply pw_below_drewN | apply below_drew1) | exact HB.out)))); have n1_ := Aside0.mk (below_step (by repeat (first | (with_reducible first | exact HB.out | apply below_alloc | apply pw_below_drewN | apply below_drew1) | exact HB.out)) hb); clear HB; have HO1038 := n0_; have HB := n1_; clear n0_ n1_; (try clear hb); (try clear hb2); (try clear hk); (try clear hi); (try clear ho0)))
    go_ret2
    exact ⟨_, by first | rfl | (simp [errW_none, errW_some] <;> rfl) | (simp [*, errW_none, errW_some] <;> rfl), by first | exact Kd.R_nil _ _ _ _ _ | exact Kd.N_nil _ _ _ _ _ | exact Kd.V_nil _ _ _ _ _ | exact Kd.Q_nil _ _ _ _ _ | exact Kd.S_nil _ _ _ _ _, by repeat (first | (with_reducible first | exact HB.out | apply below_alloc | apply pw_below_drewN | apply below_drew1) | exact HB.out)⟩
end Go.Proofs.Ytbnmcnghmnhigaa.X
end
section
namespace Go.Proofs.Ytbnmcnghmnhigaa.X
open Go.RowKit Go.Proofs.YtbnmcnghmnhigaaW.PrintWords Go.Proofs.YtbnmcnghmnhigaaW.PrintLast Go.Proofs.YtbnmcnghmnhigaaW.PrintMore
attribute [local go_sem] max2_int min2_int max_two min_two max_three min_three max_four min_four
set_option linter.unusedVariables false
set_option linter.unusedSimpArgs false
def sealringlaw32_same.l0 : Nat → List ByteArray → List ByteArray → Int → Int → Option (Bool)
  | 0, _, _, _, _ => none
  | k + 1, x1, x12, x13, x14 => if x14 < x13 then (if 0 ≤ x14 then (if x14 < (x12.length : Int) then (if x14 < (x1.length : Int) then (if (rdOf ByteArray.empty x1 x14).toList = (rdOf ByteArray.empty x12 x14).toList then (sealringlaw32_same.l0 k x1 x12 x13 (wrap64 (x14 + 1))) else (some false)) else (none)) else (none)) else (none)) else (some true)
def sealringlaw32_same.f (k : Nat) (l0 : List ByteArray) (l1 : List ByteArray) : Option (Bool) := if (l0.length : Int) = (l1.length : Int) then (sealringlaw32_same.l0 k l1 l0 (l0.length : Int) 0) else (some false)
theorem sealringlaw32_same.mono_l : ∀ k, (∀ y0 y1 y2 y3, LeO (sealringlaw32_same.l0 k y0 y1 y2 y3) (sealringlaw32_same.l0 (k + 1) y0 y1 y2 y3))
  | 0 => fun _ _ _ _ r h => by simp [sealringlaw32_same.l0] at h
  | k + 1 => by
    have ih0 := sealringlaw32_same.mono_l k
    · intro y0 y1 y2 y3
      unfold sealringlaw32_same.l0
      repeat' first
      | (with_reducible exact ih0 _ _ _ _)
      | (with_reducible exact LeO.refl _)
      | (with_reducible exact LeO.none _)
      | (with_reducible refine LeO.ite ?_ ?_)
      | (with_reducible refine LeO.bind ?_ (fun _ => ?_))
      | exact ih0 _ _ _ _
      | exact LeO.none _
      | refine LeO.ite ?_ ?_
      | refine LeO.bind ?_ (fun _ => ?_)
theorem sealringlaw32_same.mono : ∀ a0 a1 k, LeO (sealringlaw32_same.f k a0 a1) (sealringlaw32_same.f (k + 1) a0 a1) := by
  intro a0 a1 k
  have ih0 := sealringlaw32_same.mono_l k
  unfold sealringlaw32_same.f
  repeat' first
      | (with_reducible exact ih0 _ _ _ _)
      | (with_reducible exact LeO.refl _)
      | (with_reducible exact LeO.none _)
      | (with_reducible refine LeO.ite ?_ ?_)
      | (with_reducible refine LeO.bind ?_ (fun _ => ?_))
      | exact ih0 _ _ _ _
      | exact LeO.none _
      | refine LeO.ite ?_ ?_
      | refine LeO.bind ?_ (fun _ => ?_)
set_option maxHeartbeats 8000000 in
set_option maxRecDepth 100000 in
theorem sealringlaw32_same.calls (k : Nat) (A0 : Option Addr) (c0 : Nat) (l0 : List ByteArray) (A1 : Option Addr) (c1 : Nat) (l1 : List ByteArray) (r : Bool) (w : World) (hr0 : Kd.C Kd.string w A0 l0.length l0) (hc0 : l0.length ≤ c0) (hr1 : Kd.C Kd.string w A1 l1.length l1) (hc1 : l1.length ≤ c1) (h : sealringlaw32_same.f k l0 l1 = some r) :
    Calls Try.prog 54 #[.slice A0 l0.length c0, .slice A1 l1.length c1] w fun e w' => e = .returned (.bool r) ∧ Drawn0 w w' := by
  have HR0 := Aside0.mk hr0
  have HC0 := Aside0.mk hc0
  clear hr0 hc0
  have HR1 := Aside0.mk hr1
  have HC1 := Aside0.mk hc1
  clear hr1 hc1
  have H : (if (l0.length : Int) = (l1.length : Int) then (sealringlaw32_same.l0 k l1 l0 (l0.length : Int) 0) else (some false)) = some r := h
  clear h
  by_cases c3 : (l0.length : Int) = (l1.length : Int)
  · rw [if_pos c3] at H
    have c3b0 : ((l0.length : Int) == (l1.length : Int)) = true := beq_iff_eq.mpr c3
    have c3b1 : ((l0.length : Int) != (l1.length : Int)) = false := bne_eq_false_iff_eq.mpr c3
    have c3b2 : (l0.length == l1.length) = true := by first | simpa using c3 | (simp at c3 ⊢; omega)
    clear c3
    have H' := Aside0.mk H
    clear H
    go_enter Try.func54, Try.ntmps54
    go_wp2
    go_loopg [14] k (fun kq v14 w' => ∃ (x14_1 : Int), v14 = .int .i64 x14_1 ∧ Aside0 (sealringlaw32_same.l0 kq l1 l0 (l0.length : Int) x14_1 = some r) ∧ Aside0 (kq ≤ k) ∧ Drawn0 w w')
    case atStart => exact ⟨(0), (by first | rfl | (simp; done) | (simp [*]; done)), (by first | with_reducible exact H' | exact H' | (subst_vars; exact H')), ⟨Nat.le_refl _⟩, by repeat (first | exact Drawn0.refl _ | apply Drawn0.step)⟩
    case round =>
      clear H'
      try clear c1
      try clear p2
      try clear c3
      try clear c3b0
      try clear c3b1
      try clear c3b2
      obtain ⟨x14_1, rfl, HA, HK1, ⟨m1, rfl⟩⟩ := hrel
      cases gk with
      | zero => exact absurd HA.out (by simp [sealringlaw32_same.l0])
      | succ k1 =>
        have H := HA.out
        clear HA
        simp only [sealringlaw32_same.l0] at H
        by_cases c4 : x14_1 < (l0.length : Int)
        · rw [if_pos c4] at H
          have c4b0 : decide (x14_1 < (l0.length : Int)) = true := decide_eq_true c4
          clear c4
          by_cases c5 : 0 ≤ x14_1
          · rw [if_pos c5] at H
            have c5b0 : decide (0 ≤ x14_1) = true := decide_eq_true c5
            clear c5
            by_cases c6 : x14_1 < (l0.length : Int)
            · rw [if_pos c6] at H
              have c6b0 : decide (x14_1 < (l0.length : Int)) = true := decide_eq_true c6
              clear c6
              by_cases c7 : x14_1 < (l1.length : Int)
              · rw [if_pos c7] at H
                have c7b0 : decide (x14_1 < (l1.length : Int)) = true := decide_eq_true c7
                clear c7
                by_cases c8 : (rdOf ByteArray.empty l1 x14_1).toList = (rdOf ByteArray.empty l0 x14_1).toList
                · rw [if_pos c8] at H
                  have c8b0 : ((rdOf ByteArray.empty l1 x14_1).toList == (rdOf ByteArray.empty l0 x14_1).toList) = true := beq_iff_eq.mpr c8
                  have c8b1 : ((rdOf ByteArray.empty l1 x14_1).toList != (rdOf ByteArray.empty l0 x14_1).toList) = false := bne_eq_false_iff_eq.mpr c8
                  clear c8
                  have H' := Aside0.mk H
                  clear H
                  have p1061 : 0 ≤ (x14_1 : Int) := of_decide_eq_true (by first | (with_reducible assumption) | assumption)
                  have q1061 : x14_1 < (l0.length : Int) := of_decide_eq_true (by first | (with_reducible assumption) | assumption)
                  obtain ⟨ad1061, e1061, hx1061_0⟩ := Kd.at_string HR0.out x14_1 p1061 q1061
                  cases e1061
                  replace p1061 := eq_true p1061
                  replace q1061 := eq_true q1061
                  have p1062 : 0 ≤ (x14_1 : Int) := of_decide_eq_true (by first | (with_reducible assumption) | assumption)
                  have q1062 : x14_1 < (l1.length : Int) := of_decide_eq_true (by first | (with_reducible assumption) | assumption)
                  obtain ⟨ad1062, e1062, hx1062_0⟩ := Kd.at_string HR1.out x14_1 p1062 q1062
                  cases e1062
                  replace p1062 := eq_true p1062
                  replace q1062 := eq_true q1062
                  go_wp2
                  go_roundg k1
                  case measure => have := HK1.out; omega
                  case rel => exact ⟨(wrap64 (x14_1 + 1)), (by first | rfl | (simp; done) | (simp [*]; done)), (by first | with_reducible exact H' | exact H' | (subst_vars; exact H')), ⟨by have := HK1.out; omega⟩, by repeat (first | exact Drawn0.refl _ | apply Drawn0.step)⟩
                · rw [if_neg c8] at H
                  have c8b0 : ((rdOf ByteArray.empty l1 x14_1).toList == (rdOf ByteArray.empty l0 x14_1).toList) = false := beq_eq_false_iff_ne.mpr c8
                  have c8b1 : ((rdOf ByteArray.empty l1 x14_1).toList != (rdOf ByteArray.empty l0 x14_1).toList) = true := bne_iff_ne.mpr c8
                  obtain rfl := Option.some.inj H
                  have p1061 : 0 ≤ (x14_1 : Int) := of_decide_eq_true (by first | (with_reducible assumption) | assumption)
                  have q1061 : x14_1 < (l0.length : Int) := of_decide_eq_true (by first | (with_reducible assumption) | assumption)
                  obtain ⟨ad1061, e1061, hx1061_0⟩ := Kd.at_string HR0.out x14_1 p1061 q1061
                  cases e1061
                  replace p1061 := eq_true p1061
                  replace q1061 := eq_true q1061
                  have p1062 : 0 ≤ (x14_1 : Int) := of_decide_eq_true (by first | (with_reducible assumption) | assumption)
                  have q1062 : x14_1 < (l1.length : Int) := of_decide_eq_true (by first | (with_reducible assumption) | assumption)
                  obtain ⟨ad1062, e1062, hx1062_0⟩ := Kd.at_string HR1.out x14_1 p1062 q1062
                  cases e1062
                  replace p1062 := eq_true p1062
                  replace q1062 := eq_true q1062
                  go_wp2
                  go_ret
                  exact ⟨by first | rfl | (simp; done) | (simp [*]; done), by repeat (first | exact Drawn0.refl _ | apply Drawn0.step)⟩
              · rw [if_neg c7] at H
                exact absurd H (by simp)
            · rw [if_neg c6] at H
              exact absurd H (by simp)
          · rw [if_neg c5] at H
            exact absurd H (by simp)
        · rw [if_neg c4] at H
          have c4b0 : decide (x14_1 < (l0.length : Int)) = false := decide_eq_false c4
          clear c4
          obtain rfl := Option.some.inj H
          go_wp2
          go_ret
          exact ⟨by first | rfl | (simp; done) | (simp [*]; done), by repeat (first | exact Drawn0.refl _ | apply Drawn0.step)⟩
  · rw [if_neg c3] at H
    have c3b0 : ((l0.length : Int) == (l1.length : Int)) = false := beq_eq_false_iff_ne.mpr c3
    have c3b1 : ((l0.length : Int) != (l1.length : Int)) = true := bne_iff_ne.mpr c3
    have c3b2 : (l0.length == l1.length) = false := by first | simpa using c3 | (simp at c3 ⊢; omega)
    obtain rfl := Option.some.inj H
    go_enter Try.func54, Try.ntmps54
    go_wp2
    go_ret
    exact ⟨by first | rfl | (simp; done) | (simp [*]; done), by repeat (first | exact Drawn0.refl _ | apply Drawn0.step)⟩
end Go.Proofs.Ytbnmcnghmnhigaa.X
end
section
namespace Go.Proofs.Ytbnmcnghmnhigaa.X
open Go.RowKit Go.Proofs.YtbnmcnghmnhigaaW.PrintWords Go.Proofs.YtbnmcnghmnhigaaW.PrintLast Go.Proofs.YtbnmcnghmnhigaaW.PrintMore
attribute [local go_sem] max2_int min2_int max_two min_two max_three min_three max_four min_four
set_option linter.unusedVariables false
set_option linter.unusedSimpArgs false
def sealringref32_some.l0 : Nat → List ByteArray → List Bool → List ByteArray → Int → Option (List ByteArray)
  | 0, _, _, _, _ => none
  | k + 1, x0, x1, x5, x6 => if x6 < (x0.length : Int) then (if 0 ≤ x6 then (if x6 < (x1.length : Int) then (if rdOf false x1 x6 = true then (if x5.length < 8796093022208 then (sealringref32_some.l0 k x0 x1 (x5 ++ [rdOf ByteArray.empty x0 x6]) (wrap64 (x6 + 1))) else (none)) else (sealringref32_some.l0 k x0 x1 x5 (wrap64 (x6 + 1)))) else (none)) else (none)) else (some x5)
def sealringref32_some.f (k : Nat) (l0 : List ByteArray) (l1 : List Bool) : Option (List ByteArray) := sealringref32_some.l0 k l0 l1 ([] : List ByteArray) 0
theorem sealringref32_some.mono_l : ∀ k, (∀ y0 y1 y2 y3, LeO (sealringref32_some.l0 k y0 y1 y2 y3) (sealringref32_some.l0 (k + 1) y0 y1 y2 y3))
  | 0 => fun _ _ _ _ r h => by simp [sealringref32_some.l0] at h
  | k + 1 => by
    have ih0 := sealringref32_some.mono_l k
    · intro y0 y1 y2 y3
      unfold sealringref32_some.l0
      repeat' first
      | (with_reducible exact ih0 _ _ _ _)
      | (with_reducible exact LeO.refl _)
      | (with_reducible exact LeO.none _)
      | (with_reducible refine LeO.ite ?_ ?_)
      | (with_reducible refine LeO.bind ?_ (fun _ => ?_))
      | exact ih0 _ _ _ _
      | exact LeO.none _
      | refine LeO.ite ?_ ?_
      | refine LeO.bind ?_ (fun _ => ?_)
theorem sealringref32_some.mono : ∀ a0 a1 k, LeO (sealringref32_some.f k a0 a1) (sealringref32_some.f (k + 1) a0 a1) := by
  intro a0 a1 k
  have ih0 := sealringref32_some.mono_l k
  unfold sealringref32_some.f
  repeat' first
      | (with_reducible exact ih0 _ _ _ _)
      | (with_reducible exact LeO.refl _)
      | (with_reducible exact LeO.none _)
      | (with_reducible refine LeO.ite ?_ ?_)
      | (with_reducible refine LeO.bind ?_ (fun _ => ?_))
      | exact ih0 _ _ _ _
      | exact LeO.none _
      | refine LeO.ite ?_ ?_
      | refine LeO.bind ?_ (fun _ => ?_)
set_option maxHeartbeats 8000000 in
set_option maxRecDepth 100000 in
theorem sealringref32_some.calls (k : Nat) (A0 : Option Addr) (c0 : Nat) (l0 : List ByteArray) (A1 : Option Addr) (c1 : Nat) (l1 : List Bool) (r : List ByteArray) (w : World) (hr0 : Kd.C Kd.string w A0 l0.length l0) (hc0 : l0.length ≤ c0) (hr1 : Kd.C Kd.bool w A1 l1.length l1) (hc1 : l1.length ≤ c1) (h : sealringref32_some.f k l0 l1 = some r) :
    Calls Try.prog 104 #[.slice A0 l0.length c0, .slice A1 l1.length c1] w fun e w' => ∃ v0_ : Value, e = .returned (v0_) ∧ Kd.R Kd.string 9 w' w.heap.size (fun _ => True) v0_ r ∧ Below w.heap.size w w' := by
  have HR0 := Aside0.mk hr0
  have HC0 := Aside0.mk hc0
  clear hr0 hc0
  have HR1 := Aside0.mk hr1
  have HC1 := Aside0.mk hc1
  clear hr1 hc1
  have HB := Aside0.mk (Below.refl w.heap.size w)
  have H : (sealringref32_some.l0 k l0 l1 ([] : List ByteArray) 0) = some r := h
  clear h
  have H' := Aside0.mk H
  clear H
  go_enter Try.func104, Try.ntmps104
  go_wp2
  go_loopg [5, 6] k (fun kq v5 v6 w' => ∃ (x5_1 : List ByteArray) (x6_1 : Int), v6 = .int .i64 x6_1 ∧ Aside0 (sealringref32_some.l0 kq l0 l1 x5_1 x6_1 = some r) ∧ Aside0 (kq ≤ k) ∧ Aside0 (Kd.R Kd.string 9 w' w.heap.size (fun _ => True) v5 x5_1) ∧ Aside0 (Below w.heap.size w w'))
  case atStart => exact ⟨(([] : List ByteArray)), (0), (by first | rfl | (simp; done) | (simp [*]; done)), (by first | with_reducible exact H' | exact H' | (subst_vars; exact H')), ⟨Nat.le_refl _⟩, ⟨by first | exact Kd.R_nil _ _ _ _ _ | exact Kd.N_nil _ _ _ _ _ | exact Kd.V_nil _ _ _ _ _ | exact Kd.Q_nil _ _ _ _ _ | exact Kd.S_nil _ _ _ _ _⟩, ⟨by repeat (first | (with_reducible first | exact HB.out | apply below_alloc | apply pw_below_drewN | apply below_drew1) | exact HB.out)⟩⟩
  case round =>
    clear H'
    try clear c1
    try clear p2
    obtain ⟨x5_1, x6_1, rfl, HA, HK1, HO_5, HB⟩ := hrel
    cases gk with
    | zero => exact absurd HA.out (by simp [sealringref32_some.l0])
    | succ k1 =>
      have H := HA.out
      clear HA
      simp only [sealringref32_some.l0] at H
      by_cases c3 : x6_1 < (l0.length : Int)
      · rw [if_pos c3] at H
        have c3b0 : decide (x6_1 < (l0.length : Int)) = true := decide_eq_true c3
        clear c3
        by_cases c4 : 0 ≤ x6_1
        · rw [if_pos c4] at H
          have c4b0 : decide (0 ≤ x6_1) = true := decide_eq_true c4
          clear c4
          by_cases c5 : x6_1 < (l1.length : Int)
          · rw [if_pos c5] at H
            have c5b0 : decide (x6_1 < (l1.length : Int)) = true := decide_eq_true c5
            clear c5
            obtain ⟨bq6, hbq6⟩ : ∃ b_ : Bool, b_ = (rdOf false l1 x6_1) := ⟨_, rfl⟩
            replace H : (if bq6 = true then (if x5_1.length < 8796093022208 then (sealringref32_some.l0 k1 l0 l1 (x5_1 ++ [rdOf ByteArray.empty l0 x6_1]) (wrap64 (x6_1 + 1))) else (none)) else (sealringref32_some.l0 k1 l0 l1 x5_1 (wrap64 (x6_1 + 1)))) = some r := by rw [← hbq6] at H; exact H
            have Nbq6 := Aside0.mk hbq6
            clear hbq6
            by_cases c7 : bq6 = true
            · subst c7
              have H1 : (if x5_1.length < 8796093022208 then (sealringref32_some.l0 k1 l0 l1 (x5_1 ++ [rdOf ByteArray.empty l0 x6_1]) (wrap64 (x6_1 + 1))) else (none)) = some r := by rw [if_pos rfl] at H; exact H
              clear H
              have H := H1
              clear H1
              by_cases c8 : x5_1.length < 8796093022208
              · rw [if_pos c8] at H
                have LMc8 := Aside0.mk c8
                clear c8
                obtain ⟨y1065, hy1065⟩ : ∃ y_ : List ByteArray, y_ = (x5_1 ++ [rdOf ByteArray.empty l0 x6_1]) := ⟨_, rfl⟩
                replace H : (sealringref32_some.l0 k1 l0 l1 y1065 (wrap64 (x6_1 + 1))) = some r := by first | (rw [hy1065]; with_reducible exact H) | (have H2_ := (Option.bind_some _ _).symm.trans H; rw [hy1065]; with_reducible exact H2_) | (have H2_ := (Option.bind_some _ _).symm.trans H; with_reducible exact H2_) | with_reducible exact H | (rw [hy1065]; exact H) | exact H
                have Ny1065 := Aside0.mk hy1065
                clear hy1065
                have H' := Aside0.mk H
                clear H
                have p1063 : 0 ≤ (x6_1 : Int) := of_decide_eq_true (by first | (with_reducible assumption) | assumption)
                have q1063 : x6_1 < (l1.length : Int) := of_decide_eq_true (by first | (with_reducible assumption) | assumption)
                obtain ⟨ad1063, e1063, hx1063_0⟩ := Kd.at_bool HR1.out x6_1 p1063 q1063
                (try rw [← Nbq6.out] at hx1063_0)
                cases e1063
                (try replace hx1063_0 := (HB.out.cell (World.block_lt_of_cell? w _ hx1063_0)).trans hx1063_0)
                replace p1063 := eq_true p1063
                replace q1063 := eq_true q1063
                have p1064 : 0 ≤ (x6_1 : Int) := of_decide_eq_true (by first | (with_reducible assumption) | assumption)
                have q1064 : x6_1 < (l0.length : Int) := of_decide_eq_true (by first | (with_reducible assumption) | assumption)
                obtain ⟨ad1064, e1064, hx1064_0⟩ := Kd.at_string HR0.out x6_1 p1064 q1064
                cases e1064
                (try replace hx1064_0 := (HB.out.cell (World.block_lt_of_cell? w _ hx1064_0)).trans hx1064_0)
                replace p1064 := eq_true p1064
                replace q1064 := eq_true q1064
                go_wp2_with (first | ((with_reducible refine gate_builtin (b := .append) (xs := #[.tmp 17, .tmp 22]) rfl ?_); at_builtin; refine Kd.R_append Kd.string (w0 := w) w.heap.size rfl (.tmp 17) (.tmp 22) 22 9 (.string ⟨#[]⟩) 16 rfl Try.underlying22 info9 rfl (by decide) (by omega) u5 x5_1 (rdOf ByteArray.empty l0 x6_1) [.string (rdOf ByteArray.empty l0 x6_1)] (fun _ => True) (fun _ => False) rfl rfl ?aP (fun _ hk => hk.elim) ?aF ?aO ?aB ?aS ?aL ?_; (case aP => exact rfl); (case aB => exact (by repeat (first | (with_reducible first | exact HB.out | apply below_alloc | apply pw_below_drewN | apply below_drew1) | exact HB.out))); (case aF => exact (fun _ _ => trivial)); (case aO => exact (by (with_reducible repeat (first | apply Kd.R_alloc | apply Kd.R_drewN | apply Kd.R_drew)); exact HO_5.out)); (case aS => exact (below_size (by repeat (first | (with_reducible first | exact HB.out | apply below_alloc | apply pw_below_drewN | apply below_drew1) | exact HB.out)))); (case aL => have := LMc8.out; omega); intro v1066 w9 ho hb hg hat; rw [← Ny1065.out] at ho; have n0_ := Aside0.mk (hb); have n1_ := Aside0.mk (ho); clear HB; clear HO_5; have HB := n0_; have HO1067 := n1_; clear n0_ n1_; clear ho hb hg hat))
                go_roundg k1
                case measure => have := HK1.out; omega
                case rel => exact ⟨(y1065), (wrap64 (x6_1 + 1)), (by first | rfl | (simp; done) | (simp [*]; done)), (by first | with_reducible exact H' | exact H' | (subst_vars; exact H')), ⟨by have := HK1.out; omega⟩, ⟨by (with_reducible repeat (first | apply Kd.R_alloc | apply Kd.R_drewN | apply Kd.R_drew)); exact HO1067.out⟩, ⟨by repeat (first | (with_reducible first | exact HB.out | apply below_alloc | apply pw_below_drewN | apply below_drew1) | exact HB.out)⟩⟩
              · rw [if_neg c8] at H
                exact absurd H (by simp)
            · replace c7 := Bool.eq_false_iff.mpr c7
              subst c7
              have H1 : (sealringref32_some.l0 k1 l0 l1 x5_1 (wrap64 (x6_1 + 1))) = some r := by rw [if_neg (show ¬ (false = true) by decide)] at H; exact H
              clear H
              have H := H1
              clear H1
              have H' := Aside0.mk H
              clear H
              have p1063 : 0 ≤ (x6_1 : Int) := of_decide_eq_true (by first | (with_reducible assumption) | assumption)
              have q1063 : x6_1 < (l1.length : Int) := of_decide_eq_true (by first | (with_reducible assumption) | assumption)
              obtain ⟨ad1063, e1063, hx1063_0⟩ := Kd.at_bool HR1.out x6_1 p1063 q1063
              (try rw [← Nbq6.out] at hx1063_0)
              cases e1063
              (try replace hx1063_0 := (HB.out.cell (World.block_lt_of_cell? w _ hx1063_0)).trans hx1063_0)
              replace p1063 := eq_true p1063
              replace q1063 := eq_true q1063
              go_wp2
              go_roundg k1
              case measure => have := HK1.out; omega
              case rel => exact ⟨(x5_1), (wrap64 (x6_1 + 1)), (by first | rfl | (simp; done) | (simp [*]; done)), (by first | with_reducible exact H' | exact H' | (subst_vars; exact H')), ⟨by have := HK1.out; omega⟩, ⟨by (with_reducible repeat (first | apply Kd.R_alloc | apply Kd.R_drewN | apply Kd.R_drew)); exact HO_5.out⟩, ⟨by repeat (first | (with_reducible first | exact HB.out | apply below_alloc | apply pw_below_drewN | apply below_drew1) | exact HB.out)⟩⟩
          · rw [if_neg c5] at H
            exact absurd H (by simp)
        · rw [if_neg c4] at H
          exact absurd H (by simp)
      · rw [if_neg c3] at H
        have c3b0 : decide (x6_1 < (l0.length : Int)) = false := decide_eq_false c3
        clear c3
        obtain rfl := Option.some.inj H
        go_wp2
        go_ret
        exact ⟨_, by first | rfl | (simp [errW_none, errW_some] <;> rfl) | (simp [*, errW_none, errW_some] <;> rfl), by (with_reducible repeat (first | apply Kd.R_alloc | apply Kd.R_drewN | apply Kd.R_drew)); exact HO_5.out, by repeat (first | (with_reducible first | exact HB.out | apply below_alloc | apply pw_below_drewN | apply below_drew1) | exact HB.out)⟩
end Go.Proofs.Ytbnmcnghmnhigaa.X
end
