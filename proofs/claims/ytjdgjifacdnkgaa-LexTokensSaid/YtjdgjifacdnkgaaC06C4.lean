import Derived.Test.YtjdgjifacdnkgaaC06C3
import Derived.Laws.Strings
import Derived.RangeFuncNested
import Derived.RangeFuncBound
import Derived.RangeFuncCalls
import Derived.RangeFuncLeaves
import Derived.Shelf.Abstract
import Derived.Shelf.RegionOpen
import Derived.WalkKit
import Derived.OwnWalkIn
import Derived.TacticsInMore
import Derived.LoopNIn
import Derived.LoopIn
import Derived.ArgAppend
import Derived.RegionIn
section
namespace Go.Proofs.Ytjdgjifacdnkgaa.X
open Go.RowKit Go.Proofs.YtjdgjifacdnkgaaW.PrintWords Go.Proofs.YtjdgjifacdnkgaaW.PrintLast Go.Proofs.YtjdgjifacdnkgaaW.PrintMore
attribute [local go_sem] max2_int min2_int max_two min_two max_three min_three max_four min_four
set_option linter.unusedVariables false
set_option linter.unusedSimpArgs false
mutual
def sealringref05_Scan.j0 : Nat → ByteArray → Int → Bool → Option (Int × Int × Int)
  | 0, _, _, _ => none
  | k + 1, x0, x1, x20 => if x20 = true then (some (0, 0, 1)) else (if x1 < (x0.size : Int) then (if 0 ≤ x1 then (sealringref05_Scan.j1 k x0 x1 0 ((bt x0 x1) == 45)) else (none)) else (sealringref05_Scan.j1 k x0 x1 0 false))
def sealringref05_Scan.j1 : Nat → ByteArray → Int → Int → Bool → Option (Int × Int × Int)
  | 0, _, _, _, _ => none
  | k + 1, x0, x1, x7, x30 => if x30 = true then (sealringref05_Scan.j2 k x0 x1 1) else (sealringref05_Scan.j2 k x0 x1 x7)
def sealringref05_Scan.j2 : Nat → ByteArray → Int → Int → Option (Int × Int × Int)
  | 0, _, _, _ => none
  | k + 1, x0, x1, x7 => if (wrap64 (x1 + x7)) = (x0.size : Int) then (some (0, 0, 5)) else ((sealringref05_digits.f k x0 (wrap64 (x1 + x7))).bind fun t160 => (if t160 = 0 then (some (0, 0, 6)) else (if 0 ≤ (wrap64 (x1 + x7)) then (if (wrap64 (x1 + x7)) < (x0.size : Int) then (if (bt x0 (wrap64 (x1 + x7))) = 48 then (if t160 > 1 then (sealringref05_Scan.j3 k x0 x7 (wrap64 (x1 + x7)) (wrap64 ((wrap64 (x1 + x7)) + t160)) true) else (sealringref05_Scan.j3 k x0 x7 (wrap64 (x1 + x7)) (wrap64 ((wrap64 (x1 + x7)) + t160)) (x7 == 1))) else (sealringref05_Scan.j3 k x0 x7 (wrap64 (x1 + x7)) (wrap64 ((wrap64 (x1 + x7)) + t160)) false)) else (none)) else (none))))
def sealringref05_Scan.j3 : Nat → ByteArray → Int → Int → Int → Bool → Option (Int × Int × Int)
  | 0, _, _, _, _, _ => none
  | k + 1, x0, x7, x8, x10, x57 => if x57 = true then (some (0, 0, 12)) else (if x10 < (x0.size : Int) then (if 0 ≤ x10 then (if (bt x0 x10) = 46 then (sealringref05_Scan.j4 k x0 x7 x8 x10 true) else (if (bt x0 x10) = 101 then (sealringref05_Scan.j4 k x0 x7 x8 x10 true) else (sealringref05_Scan.j4 k x0 x7 x8 x10 ((bt x0 x10) == 69)))) else (none)) else (sealringref05_Scan.j4 k x0 x7 x8 x10 false))
def sealringref05_Scan.j4 : Nat → ByteArray → Int → Int → Int → Bool → Option (Int × Int × Int)
  | 0, _, _, _, _, _ => none
  | k + 1, x0, x7, x8, x10, x79 => if x79 = true then (some (0, 0, 12)) else (if 0 ≤ x8 then (if x8 ≤ x10 then (if x10 ≤ (x0.size : Int) then ((sealringref05_small.f k (x0.extract (x8 : Int).toNat (x10 : Int).toNat)).bind fun bt161 => (if bt161.2 = true then (if x7 = 1 then (some (wrap64 (-bt161.1), x10, 0)) else (some (bt161.1, x10, 0))) else (some (0, 0, 2)))) else (none)) else (none)) else (none))
end
def sealringref05_Scan.f (k : Nat) (a0 : ByteArray) (a1 : Int) : Option (Int × Int × Int) := if a1 < 0 then (sealringref05_Scan.j0 k a0 a1 true) else (sealringref05_Scan.j0 k a0 a1 (decide (a1 > (a0.size : Int))))
theorem sealringref05_Scan.mono_l : ∀ k, (∀ y0 y1 y2, LeO (sealringref05_Scan.j0 k y0 y1 y2) (sealringref05_Scan.j0 (k + 1) y0 y1 y2)) ∧ (∀ y0 y1 y2 y3, LeO (sealringref05_Scan.j1 k y0 y1 y2 y3) (sealringref05_Scan.j1 (k + 1) y0 y1 y2 y3)) ∧ (∀ y0 y1 y2, LeO (sealringref05_Scan.j2 k y0 y1 y2) (sealringref05_Scan.j2 (k + 1) y0 y1 y2)) ∧ (∀ y0 y1 y2 y3 y4, LeO (sealringref05_Scan.j3 k y0 y1 y2 y3 y4) (sealringref05_Scan.j3 (k + 1) y0 y1 y2 y3 y4)) ∧ (∀ y0 y1 y2 y3 y4, LeO (sealringref05_Scan.j4 k y0 y1 y2 y3 y4) (sealringref05_Scan.j4 (k + 1) y0 y1 y2 y3 y4))
  | 0 => ⟨fun _ _ _ r h => by simp [sealringref05_Scan.j0] at h, fun _ _ _ _ r h => by simp [sealringref05_Scan.j1] at h, fun _ _ _ r h => by simp [sealringref05_Scan.j2] at h, fun _ _ _ _ _ r h => by simp [sealringref05_Scan.j3] at h, fun _ _ _ _ _ r h => by simp [sealringref05_Scan.j4] at h⟩
  | k + 1 => by
    obtain ⟨ih0, ih1, ih2, ih3, ih4⟩ := sealringref05_Scan.mono_l k
    refine ⟨?_, ?_, ?_, ?_, ?_⟩
    · intro y0 y1 y2
      unfold sealringref05_Scan.j0
      repeat' first
      | (with_reducible exact ih0 _ _ _)
      | (with_reducible exact ih1 _ _ _ _)
      | (with_reducible exact ih2 _ _ _)
      | (with_reducible exact ih3 _ _ _ _ _)
      | (with_reducible exact ih4 _ _ _ _ _)
      | (with_reducible exact sealringref05_digits.mono _ _ _)
      | (with_reducible exact sealringref05_small.mono _ _)
      | (with_reducible exact LeO.refl _)
      | (with_reducible exact LeO.none _)
      | (with_reducible refine LeO.ite ?_ ?_)
      | (with_reducible refine LeO.bind ?_ (fun _ => ?_))
      | exact ih0 _ _ _
      | exact ih1 _ _ _ _
      | exact ih2 _ _ _
      | exact ih3 _ _ _ _ _
      | exact ih4 _ _ _ _ _
      | exact sealringref05_digits.mono _ _ _
      | exact sealringref05_small.mono _ _
      | exact LeO.none _
      | refine LeO.ite ?_ ?_
      | refine LeO.bind ?_ (fun _ => ?_)
    · intro y0 y1 y2 y3
      unfold sealringref05_Scan.j1
      repeat' first
      | (with_reducible exact ih0 _ _ _)
      | (with_reducible exact ih1 _ _ _ _)
      | (with_reducible exact ih2 _ _ _)
      | (with_reducible exact ih3 _ _ _ _ _)
      | (with_reducible exact ih4 _ _ _ _ _)
      | (with_reducible exact sealringref05_digits.mono _ _ _)
      | (with_reducible exact sealringref05_small.mono _ _)
      | (with_reducible exact LeO.refl _)
      | (with_reducible exact LeO.none _)
      | (with_reducible refine LeO.ite ?_ ?_)
      | (with_reducible refine LeO.bind ?_ (fun _ => ?_))
      | exact ih0 _ _ _
      | exact ih1 _ _ _ _
      | exact ih2 _ _ _
      | exact ih3 _ _ _ _ _
      | exact ih4 _ _ _ _ _
      | exact sealringref05_digits.mono _ _ _
      | exact sealringref05_small.mono _ _
      | exact LeO.none _
      | refine LeO.ite ?_ ?_
      | refine LeO.bind ?_ (fun _ => ?_)
    · intro y0 y1 y2
      unfold sealringref05_Scan.j2
      repeat' first
      | (with_reducible exact ih0 _ _ _)
      | (with_reducible exact ih1 _ _ _ _)
      | (with_reducible exact ih2 _ _ _)
      | (with_reducible exact ih3 _ _ _ _ _)
      | (with_reducible exact ih4 _ _ _ _ _)
      | (with_reducible exact sealringref05_digits.mono _ _ _)
      | (with_reducible exact sealringref05_small.mono _ _)
      | (with_reducible exact LeO.refl _)
      | (with_reducible exact LeO.none _)
      | (with_reducible refine LeO.ite ?_ ?_)
      | (with_reducible refine LeO.bind ?_ (fun _ => ?_))
      | exact ih0 _ _ _
      | exact ih1 _ _ _ _
      | exact ih2 _ _ _
      | exact ih3 _ _ _ _ _
      | exact ih4 _ _ _ _ _
      | exact sealringref05_digits.mono _ _ _
      | exact sealringref05_small.mono _ _
      | exact LeO.none _
      | refine LeO.ite ?_ ?_
      | refine LeO.bind ?_ (fun _ => ?_)
    · intro y0 y1 y2 y3 y4
      unfold sealringref05_Scan.j3
      repeat' first
      | (with_reducible exact ih0 _ _ _)
      | (with_reducible exact ih1 _ _ _ _)
      | (with_reducible exact ih2 _ _ _)
      | (with_reducible exact ih3 _ _ _ _ _)
      | (with_reducible exact ih4 _ _ _ _ _)
      | (with_reducible exact sealringref05_digits.mono _ _ _)
      | (with_reducible exact sealringref05_small.mono _ _)
      | (with_reducible exact LeO.refl _)
      | (with_reducible exact LeO.none _)
      | (with_reducible refine LeO.ite ?_ ?_)
      | (with_reducible refine LeO.bind ?_ (fun _ => ?_))
      | exact ih0 _ _ _
      | exact ih1 _ _ _ _
      | exact ih2 _ _ _
      | exact ih3 _ _ _ _ _
      | exact ih4 _ _ _ _ _
      | exact sealringref05_digits.mono _ _ _
      | exact sealringref05_small.mono _ _
      | exact LeO.none _
      | refine LeO.ite ?_ ?_
      | refine LeO.bind ?_ (fun _ => ?_)
    · intro y0 y1 y2 y3 y4
      unfold sealringref05_Scan.j4
      repeat' first
      | (with_reducible exact ih0 _ _ _)
      | (with_reducible exact ih1 _ _ _ _)
      | (with_reducible exact ih2 _ _ _)
      | (with_reducible exact ih3 _ _ _ _ _)
      | (with_reducible exact ih4 _ _ _ _ _)
      | (with_reducible exact sealringref05_digits.mono _ _ _)
      | (with_reducible exact sealringref05_small.mono _ _)
      | (with_reducible exact LeO.refl _)
      | (with_reducible exact LeO.none _)
      | (with_reducible refine LeO.ite ?_ ?_)
      | (with_reducible refine LeO.bind ?_ (fun _ => ?_))
      | exact ih0 _ _ _
      | exact ih1 _ _ _ _
      | exact ih2 _ _ _
      | exact ih3 _ _ _ _ _
      | exact ih4 _ _ _ _ _
      | exact sealringref05_digits.mono _ _ _
      | exact sealringref05_small.mono _ _
      | exact LeO.none _
      | refine LeO.ite ?_ ?_
      | refine LeO.bind ?_ (fun _ => ?_)
theorem sealringref05_Scan.mono : ∀ a0 a1 k, LeO (sealringref05_Scan.f k a0 a1) (sealringref05_Scan.f (k + 1) a0 a1) := by
  intro a0 a1 k
  obtain ⟨ih0, ih1, ih2, ih3, ih4⟩ := sealringref05_Scan.mono_l k
  unfold sealringref05_Scan.f
  repeat' first
      | (with_reducible exact ih0 _ _ _)
      | (with_reducible exact ih1 _ _ _ _)
      | (with_reducible exact ih2 _ _ _)
      | (with_reducible exact ih3 _ _ _ _ _)
      | (with_reducible exact ih4 _ _ _ _ _)
      | (with_reducible exact sealringref05_digits.mono _ _ _)
      | (with_reducible exact sealringref05_small.mono _ _)
      | (with_reducible exact LeO.refl _)
      | (with_reducible exact LeO.none _)
      | (with_reducible refine LeO.ite ?_ ?_)
      | (with_reducible refine LeO.bind ?_ (fun _ => ?_))
      | exact ih0 _ _ _
      | exact ih1 _ _ _ _
      | exact ih2 _ _ _
      | exact ih3 _ _ _ _ _
      | exact ih4 _ _ _ _ _
      | exact sealringref05_digits.mono _ _ _
      | exact sealringref05_small.mono _ _
      | exact LeO.none _
      | refine LeO.ite ?_ ?_
      | refine LeO.bind ?_ (fun _ => ?_)
set_option maxHeartbeats 8000000 in
set_option maxRecDepth 100000 in
theorem sealringref05_Scan.calls (k : Nat) (a0 : ByteArray) (a1 : Int) (r1 : Int) (r2 : Int) (r3 : Int) (w : World) (h : sealringref05_Scan.f k a0 a1 = some (r1, r2, r3)) :
    Calls Try.prog 23 #[.string a0, .int .i64 a1] w fun e w' => e = .returned (.tuple #[.int .i64 r1, .int .i64 r2, .int .i64 r3]) ∧ Drawn0 w w' := by
  have H : (if a1 < 0 then (sealringref05_Scan.j0 k a0 a1 true) else (sealringref05_Scan.j0 k a0 a1 (decide (a1 > (a0.size : Int))))) = some (r1, r2, r3) := h
  clear h
  have HC3 := Aside0.mk H
  clear H
  go_enter Try.func23, Try.ntmps23
  go_upto_region 1 with (fail)
  go_cut [20] (fun v20 wc => ∃ (kq : Nat) (x20_2 : Bool), v20 = .bool x20_2 ∧ Aside0 (sealringref05_Scan.j0 kq a0 a1 x20_2 = some (r1, r2, r3)) ∧ Aside0 (kq ≤ k) ∧ Drawn0 w wc)
  case first =>
    have H := HC3.out
    clear HC3
    by_cases c4 : a1 < 0
    · rw [if_pos c4] at H
      have c4b0 : decide (a1 < 0) = true := decide_eq_true c4
      clear c4
      (first | rw [c4b0] | (simp only [i64_w, i32_w]; rw [c4b0]) | skip)
      have H' := Aside0.mk H
      clear H
      go_wp2
      go_meet
      case rel => exact ⟨_, (true), (by first | rfl | (simp; done) | (simp [*]; done) | (simp [wrap64]; done)), (by first | with_reducible exact H' | exact H' | (subst_vars; exact H')), ⟨by first | omega | exact Nat.le_refl _⟩, by repeat (first | exact Drawn0.refl _ | apply Drawn0.step)⟩
    · rw [if_neg c4] at H
      have c4b0 : decide (a1 < 0) = false := decide_eq_false c4
      clear c4
      (first | rw [c4b0] | (simp only [i64_w, i32_w]; rw [c4b0]) | skip)
      have H' := Aside0.mk H
      clear H
      go_wp2
      go_meet
      case rel => exact ⟨_, (decide (a1 > (a0.size : Int))), (by first | rfl | (simp; done) | (simp [*]; done) | (simp [wrap64]; done)), (by first | with_reducible exact H' | exact H' | (subst_vars; exact H')), ⟨by first | omega | exact Nat.le_refl _⟩, by repeat (first | exact Drawn0.refl _ | apply Drawn0.step)⟩
  case rest =>
    clear HC3
    try clear c2
    try clear p2
    try clear c4
    try clear c4b0
    obtain ⟨kq, x20_2, rfl, HA, HJ2, ⟨mc2, rfl⟩⟩ := hcut
    cases kq with
    | zero => exact absurd HA.out (by simp [sealringref05_Scan.j0])
    | succ kj2 =>
      have H := HA.out
      clear HA
      simp only [sealringref05_Scan.j0] at H
      by_cases c5 : x20_2 = true
      · subst c5
        have H1 : (some (0, 0, 1)) = some (r1, r2, r3) := by rw [if_pos rfl] at H; exact H
        clear H
        have H := H1
        clear H1
        simp only [Option.some.injEq, Prod.mk.injEq] at H
        obtain ⟨rfl, rfl, rfl⟩ := H
        go_wp2
        go_ret3
        exact ⟨by first | rfl | (simp; done) | (simp [*]; done), by repeat (first | exact Drawn0.refl _ | apply Drawn0.step)⟩
      · replace c5 := Bool.eq_false_iff.mpr c5
        subst c5
        have H1 : (if a1 < (a0.size : Int) then (if 0 ≤ a1 then (sealringref05_Scan.j1 kj2 a0 a1 0 ((bt a0 a1) == 45)) else (none)) else (sealringref05_Scan.j1 kj2 a0 a1 0 false)) = some (r1, r2, r3) := by rw [if_neg (show ¬ (false = true) by decide)] at H; exact H
        clear H
        have H := H1
        clear H1
        have HC6 := Aside0.mk H
        clear H
        go_upto_region 4 with (fail)
        go_cut [30] (fun v30 wc => ∃ (kq : Nat) (x30_5 : Bool), v30 = .bool x30_5 ∧ Aside0 (sealringref05_Scan.j1 kq a0 a1 0 x30_5 = some (r1, r2, r3)) ∧ Aside0 (kq ≤ kj2) ∧ Drawn0 w wc)
        case first =>
          have H := HC6.out
          clear HC6
          by_cases c7 : a1 < (a0.size : Int)
          · rw [if_pos c7] at H
            have c7b0 : decide (a1 < (a0.size : Int)) = true := decide_eq_true c7
            clear c7
            (first | rw [c7b0] | (simp only [i64_w, i32_w]; rw [c7b0]) | skip)
            by_cases c8 : 0 ≤ a1
            · rw [if_pos c8] at H
              have c8b0 : decide (0 ≤ a1) = true := decide_eq_true c8
              clear c8
              have H' := Aside0.mk H
              clear H
              have p9 : 0 ≤ (a1 : Int) := of_decide_eq_true (by first | (with_reducible assumption) | assumption)
              have q9 : a1 < (a0.size : Int) := of_decide_eq_true (by first | (with_reducible assumption) | assumption)
              have hx9 := bt_at a0 a1
              replace p9 := eq_true p9
              replace q9 := eq_true q9
              go_wp2
              go_meet
              case rel => exact ⟨_, (((bt a0 a1) == 45)), (by first | rfl | (simp; done) | (simp [*]; done) | (simp [wrap64]; done)), (by first | with_reducible exact H' | exact H' | (subst_vars; exact H')), ⟨by have := HJ2.out; first | omega | exact Nat.le_refl _⟩, by repeat (first | exact Drawn0.refl _ | apply Drawn0.step)⟩
            · rw [if_neg c8] at H
              exact absurd H (by simp)
          · rw [if_neg c7] at H
            have c7b0 : decide (a1 < (a0.size : Int)) = false := decide_eq_false c7
            clear c7
            (first | rw [c7b0] | (simp only [i64_w, i32_w]; rw [c7b0]) | skip)
            have H' := Aside0.mk H
            clear H
            go_wp2
            go_meet
            case rel => exact ⟨_, (false), (by first | rfl | (simp; done) | (simp [*]; done) | (simp [wrap64]; done)), (by first | with_reducible exact H' | exact H' | (subst_vars; exact H')), ⟨by have := HJ2.out; first | omega | exact Nat.le_refl _⟩, by repeat (first | exact Drawn0.refl _ | apply Drawn0.step)⟩
        case rest =>
          clear HC6
          try clear c2
          try clear p2
          try clear c4
          try clear c4b0
          try clear c5
          try clear c7
          try clear c7b0
          try clear c8
          try clear c8b0
          try clear p9
          try clear q9
          try clear hx9
          try clear p2
          try clear p9
          try clear q9
          obtain ⟨kq, x30_5, rfl, HA, HJ5, ⟨mc5, rfl⟩⟩ := hcut
          cases kq with
          | zero => exact absurd HA.out (by simp [sealringref05_Scan.j1])
          | succ kj5 =>
            have H := HA.out
            clear HA
            simp only [sealringref05_Scan.j1] at H
            have HC10 := Aside0.mk H
            clear H
            go_upto_if 30 with (fail)
            go_cut [7] (fun v7 wc => ∃ (kq : Nat) (x7_9 : Int), v7 = .int .i64 x7_9 ∧ Aside0 (sealringref05_Scan.j2 kq a0 a1 x7_9 = some (r1, r2, r3)) ∧ Aside0 (kq ≤ kj5) ∧ Drawn0 w wc)
            case first =>
              have H := HC10.out
              clear HC10
              by_cases c11 : x30_5 = true
              · subst c11
                have H1 : (sealringref05_Scan.j2 kj5 a0 a1 1) = some (r1, r2, r3) := by rw [if_pos rfl] at H; exact H
                clear H
                have H := H1
                clear H1
                have H' := Aside0.mk H
                clear H
                go_wp2
                go_meet
                case rel => exact ⟨_, (1), (by first | rfl | (simp; done) | (simp [*]; done) | (simp [wrap64]; done)), (by first | with_reducible exact H' | exact H' | (subst_vars; exact H')), ⟨by have := HJ2.out; have := HJ5.out; first | omega | exact Nat.le_refl _⟩, by repeat (first | exact Drawn0.refl _ | apply Drawn0.step)⟩
              · replace c11 := Bool.eq_false_iff.mpr c11
                subst c11
                have H1 : (sealringref05_Scan.j2 kj5 a0 a1 0) = some (r1, r2, r3) := by rw [if_neg (show ¬ (false = true) by decide)] at H; exact H
                clear H
                have H := H1
                clear H1
                have H' := Aside0.mk H
                clear H
                go_wp2
                go_meet
                case rel => exact ⟨_, (0), (by first | rfl | (simp; done) | (simp [*]; done) | (simp [wrap64]; done)), (by first | with_reducible exact H' | exact H' | (subst_vars; exact H')), ⟨by have := HJ2.out; have := HJ5.out; first | omega | exact Nat.le_refl _⟩, by repeat (first | exact Drawn0.refl _ | apply Drawn0.step)⟩
            case rest =>
              clear HC10
              try clear c1
              try clear c2
              try clear p2
              try clear c4
              try clear c4b0
              try clear c5
              try clear c7
              try clear c7b0
              try clear c8
              try clear c8b0
              try clear p9
              try clear q9
              try clear hx9
              try clear c11
              try clear p2
              try clear p9
              try clear q9
              obtain ⟨kq, x7_9, rfl, HA, HJ9, ⟨mc9, rfl⟩⟩ := hcut
              cases kq with
              | zero => exact absurd HA.out (by simp [sealringref05_Scan.j2])
              | succ kj9 =>
                have H := HA.out
                clear HA
                simp only [sealringref05_Scan.j2] at H
                by_cases c12 : (wrap64 (a1 + x7_9)) = (a0.size : Int)
                · rw [if_pos c12] at H
                  have c12b0 : ((wrap64 (a1 + x7_9)) == (a0.size : Int)) = true := beq_iff_eq.mpr c12
                  have c12b1 : ((wrap64 (a1 + x7_9)) != (a0.size : Int)) = false := bne_eq_false_iff_eq.mpr c12
                  clear c12
                  simp only [Option.some.injEq, Prod.mk.injEq] at H
                  obtain ⟨rfl, rfl, rfl⟩ := H
                  go_wp2
                  go_ret3
                  exact ⟨by first | rfl | (simp; done) | (simp [*]; done), by repeat (first | exact Drawn0.refl _ | apply Drawn0.step)⟩
                · rw [if_neg c12] at H
                  have c12b0 : ((wrap64 (a1 + x7_9)) == (a0.size : Int)) = false := beq_eq_false_iff_ne.mpr c12
                  have c12b1 : ((wrap64 (a1 + x7_9)) != (a0.size : Int)) = true := bne_iff_ne.mpr c12
                  replace H := Option.bind_eq_some_iff.mp H
                  obtain ⟨t160, A130, H⟩ := H
                  replace H : (if t160 = 0 then (some (0, 0, 6)) else (if 0 ≤ (wrap64 (a1 + x7_9)) then (if (wrap64 (a1 + x7_9)) < (a0.size : Int) then (if (bt a0 (wrap64 (a1 + x7_9))) = 48 then (if t160 > 1 then (sealringref05_Scan.j3 kj9 a0 x7_9 (wrap64 (a1 + x7_9)) (wrap64 ((wrap64 (a1 + x7_9)) + t160)) true) else (sealringref05_Scan.j3 kj9 a0 x7_9 (wrap64 (a1 + x7_9)) (wrap64 ((wrap64 (a1 + x7_9)) + t160)) (x7_9 == 1))) else (sealringref05_Scan.j3 kj9 a0 x7_9 (wrap64 (a1 + x7_9)) (wrap64 ((wrap64 (a1 + x7_9)) + t160)) false)) else (none)) else (none))) = some (r1, r2, r3) := H
                  have A13 := Aside0.mk A130
                  clear A130
                  by_cases c14 : t160 = 0
                  · rw [if_pos c14] at H
                    have c14b0 : (t160 == 0) = true := beq_iff_eq.mpr c14
                    have c14b1 : (t160 != 0) = false := bne_eq_false_iff_eq.mpr c14
                    clear c14
                    simp only [Option.some.injEq, Prod.mk.injEq] at H
                    obtain ⟨rfl, rfl, rfl⟩ := H
                    go_wp2_with (first | ((with_reducible refine gate_callee (f := 32) rfl ?_); refine goesL_ (some 40) rfl rfl Try.func32 (by kernel_rfl) rfl #[.string a0, .int .i64 (wrap64 (a1 + x7_9))] rfl (by (try simp only [List.map_toArray, List.map_cons, List.map_nil]); first | done | rfl | (simp only [List.length_drop, List.length_take]; rfl)) ?_; (with_reducible refine (sealringref05_digits.calls kj9 a0 (wrap64 (a1 + x7_9)) t160 _ A13.out).mono ?_); rintro e w' ⟨rfl, ⟨nd, rfl⟩⟩; refine ⟨_, rfl, ?_⟩))
                    go_ret3
                    exact ⟨by first | rfl | (simp; done) | (simp [*]; done), by repeat (first | exact Drawn0.refl _ | apply Drawn0.step)⟩
                  · rw [if_neg c14] at H
                    have c14b0 : (t160 == 0) = false := beq_eq_false_iff_ne.mpr c14
                    have c14b1 : (t160 != 0) = true := bne_iff_ne.mpr c14
                    have HC15 := Aside0.mk H
                    clear H
                    go_upto_region 13 with (first | ((with_reducible refine gate_callee (f := 32) rfl ?_); refine goesL_ (some 40) rfl rfl Try.func32 (by kernel_rfl) rfl #[.string a0, .int .i64 (wrap64 (a1 + x7_9))] rfl (by (try simp only [List.map_toArray, List.map_cons, List.map_nil]); first | done | rfl | (simp only [List.length_drop, List.length_take]; rfl)) ?_; (with_reducible refine (sealringref05_digits.calls kj9 a0 (wrap64 (a1 + x7_9)) t160 _ A13.out).mono ?_); rintro e w' ⟨rfl, ⟨nd, rfl⟩⟩; refine ⟨_, rfl, ?_⟩))
                    (try simp only [Act.put, List.setIfInBounds_toArray, List.set_cons_zero, List.set_cons_succ])
                    go_cut [57] (fun v57 wc => ∃ (kq : Nat) (x57_14 : Bool), v57 = .bool x57_14 ∧ Aside0 (sealringref05_Scan.j3 kq a0 x7_9 (wrap64 (a1 + x7_9)) (wrap64 ((wrap64 (a1 + x7_9)) + t160)) x57_14 = some (r1, r2, r3)) ∧ Aside0 (kq ≤ kj9) ∧ Drawn0 w wc)
                    case first =>
                      have H := HC15.out
                      clear HC15
                      obtain ⟨ji16, hji16⟩ : ∃ j_ : Int, (wrap64 (a1 + x7_9)) = j_ := ⟨_, rfl⟩
                      replace H : (if 0 ≤ (ji16) then (if (ji16) < (a0.size : Int) then (if (bt a0 (ji16)) = 48 then (if t160 > 1 then (sealringref05_Scan.j3 kj9 a0 x7_9 ji16 (wrap64 ((ji16) + t160)) true) else (sealringref05_Scan.j3 kj9 a0 x7_9 ji16 (wrap64 ((ji16) + t160)) (x7_9 == 1))) else (sealringref05_Scan.j3 kj9 a0 x7_9 ji16 (wrap64 ((ji16) + t160)) false)) else (none)) else (none)) = some (r1, r2, r3) := by first | (rw [hji16] at H; exact H) | (simp only [hji16] at H ⊢; exact H)
                      (try rw [hji16] at c12b0)
                      (try rw [hji16] at c12b1)
                      have hji16w : (IntKind.i64.wrap (a1 + x7_9)) = ji16 := (i64_w _).trans hji16
                      by_cases c17 : 0 ≤ (ji16)
                      · rw [if_pos c17] at H
                        have c17b0 : decide (0 ≤ (ji16)) = true := decide_eq_true c17
                        clear c17
                        (first | rw [c17b0] | (simp only [i64_w, i32_w]; rw [c17b0]) | skip)
                        by_cases c18 : (ji16) < (a0.size : Int)
                        · rw [if_pos c18] at H
                          have c18b0 : decide ((ji16) < (a0.size : Int)) = true := decide_eq_true c18
                          clear c18
                          by_cases c20 : (bt a0 (ji16)) = 48
                          · rw [if_pos c20] at H
                            have c20b0 : ((bt a0 (ji16)) == 48) = true := beq_iff_eq.mpr c20
                            have c20b1 : ((bt a0 (ji16)) != 48) = false := bne_eq_false_iff_eq.mpr c20
                            clear c20
                            by_cases c21 : t160 > 1
                            · rw [if_pos c21] at H
                              have c21b0 : decide (1 < t160) = true := decide_eq_true c21
                              clear c21
                              have H' := Aside0.mk H
                              clear H
                              have p19 : 0 ≤ ((ji16) : Int) := of_decide_eq_true (by first | (with_reducible assumption) | assumption)
                              have q19 : (ji16) < (a0.size : Int) := of_decide_eq_true (by first | (with_reducible assumption) | assumption)
                              have hx19 := bt_at a0 (ji16)
                              replace p19 := eq_true p19
                              replace q19 := eq_true q19
                              go_wp2
                              go_meet
                              case rel => exact ⟨_, (true), (by first | rfl | (simp; done) | (simp [*]; done) | (simp [wrap64]; done)), (by first | with_reducible exact H' | exact H' | (subst_vars; exact H')), ⟨by have := HJ2.out; have := HJ5.out; have := HJ9.out; first | omega | exact Nat.le_refl _⟩, by repeat (first | exact Drawn0.refl _ | apply Drawn0.step)⟩
                            · rw [if_neg c21] at H
                              have c21b0 : decide (1 < t160) = false := decide_eq_false c21
                              clear c21
                              have H' := Aside0.mk H
                              clear H
                              have p19 : 0 ≤ ((ji16) : Int) := of_decide_eq_true (by first | (with_reducible assumption) | assumption)
                              have q19 : (ji16) < (a0.size : Int) := of_decide_eq_true (by first | (with_reducible assumption) | assumption)
                              have hx19 := bt_at a0 (ji16)
                              replace p19 := eq_true p19
                              replace q19 := eq_true q19
                              go_wp2
                              go_meet
                              case rel => exact ⟨_, ((x7_9 == 1)), (by first | rfl | (simp; done) | (simp [*]; done) | (simp [wrap64]; done)), (by first | with_reducible exact H' | exact H' | (subst_vars; exact H')), ⟨by have := HJ2.out; have := HJ5.out; have := HJ9.out; first | omega | exact Nat.le_refl _⟩, by repeat (first | exact Drawn0.refl _ | apply Drawn0.step)⟩
                          · rw [if_neg c20] at H
                            have c20b0 : ((bt a0 (ji16)) == 48) = false := beq_eq_false_iff_ne.mpr c20
                            have c20b1 : ((bt a0 (ji16)) != 48) = true := bne_iff_ne.mpr c20
                            have H' := Aside0.mk H
                            clear H
                            have p19 : 0 ≤ ((ji16) : Int) := of_decide_eq_true (by first | (with_reducible assumption) | assumption)
                            have q19 : (ji16) < (a0.size : Int) := of_decide_eq_true (by first | (with_reducible assumption) | assumption)
                            have hx19 := bt_at a0 (ji16)
                            replace p19 := eq_true p19
                            replace q19 := eq_true q19
                            go_wp2
                            go_meet
                            case rel => exact ⟨_, (false), (by first | rfl | (simp; done) | (simp [*]; done) | (simp [wrap64]; done)), (by first | with_reducible exact H' | exact H' | (subst_vars; exact H')), ⟨by have := HJ2.out; have := HJ5.out; have := HJ9.out; first | omega | exact Nat.le_refl _⟩, by repeat (first | exact Drawn0.refl _ | apply Drawn0.step)⟩
                        · rw [if_neg c18] at H
                          exact absurd H (by simp)
                      · rw [if_neg c17] at H
                        exact absurd H (by simp)
                    case rest =>
                      clear HC15
                      try clear c1
                      try clear p1
                      try clear q1
                      try clear hx1
                      try clear c2
                      try clear p2
                      try clear c3
                      try clear c4
                      try clear c4b0
                      try clear c5
                      try clear p6
                      try clear c7
                      try clear c7b0
                      try clear c8
                      try clear c8b0
                      try clear c9
                      try clear p9
                      try clear q9
                      try clear hx9
                      try clear c11
                      try clear c12
                      try clear c12b0
                      try clear c12b1
                      try clear c14
                      try clear c14b0
                      try clear c14b1
                      try clear c17
                      try clear c17b0
                      try clear c18
                      try clear c18b0
                      try clear p19
                      try clear q19
                      try clear hx19
                      try clear c20
                      try clear c20b0
                      try clear c20b1
                      try clear c21
                      try clear c21b0
                      try clear p19
                      try clear p2
                      try clear p9
                      try clear q19
                      try clear q9
                      obtain ⟨kq, x57_14, rfl, HA, HJ14, ⟨mc14, rfl⟩⟩ := hcut
                      cases kq with
                      | zero => exact absurd HA.out (by simp [sealringref05_Scan.j3])
                      | succ kj14 =>
                        have H := HA.out
                        clear HA
                        simp only [sealringref05_Scan.j3] at H
                        by_cases c22 : x57_14 = true
                        · subst c22
                          have H1 : (some (0, 0, 12)) = some (r1, r2, r3) := by rw [if_pos rfl] at H; exact H
                          clear H
                          have H := H1
                          clear H1
                          simp only [Option.some.injEq, Prod.mk.injEq] at H
                          obtain ⟨rfl, rfl, rfl⟩ := H
                          go_wp2
                          go_ret3
                          exact ⟨by first | rfl | (simp; done) | (simp [*]; done), by repeat (first | exact Drawn0.refl _ | apply Drawn0.step)⟩
                        · replace c22 := Bool.eq_false_iff.mpr c22
                          subst c22
                          have H1 : (if (wrap64 ((wrap64 (a1 + x7_9)) + t160)) < (a0.size : Int) then (if 0 ≤ (wrap64 ((wrap64 (a1 + x7_9)) + t160)) then (if (bt a0 (wrap64 ((wrap64 (a1 + x7_9)) + t160))) = 46 then (sealringref05_Scan.j4 kj14 a0 x7_9 (wrap64 (a1 + x7_9)) (wrap64 ((wrap64 (a1 + x7_9)) + t160)) true) else (if (bt a0 (wrap64 ((wrap64 (a1 + x7_9)) + t160))) = 101 then (sealringref05_Scan.j4 kj14 a0 x7_9 (wrap64 (a1 + x7_9)) (wrap64 ((wrap64 (a1 + x7_9)) + t160)) true) else (sealringref05_Scan.j4 kj14 a0 x7_9 (wrap64 (a1 + x7_9)) (wrap64 ((wrap64 (a1 + x7_9)) + t160)) ((bt a0 (wrap64 ((wrap64 (a1 + x7_9)) + t160))) == 69)))) else (none)) else (sealringref05_Scan.j4 kj14 a0 x7_9 (wrap64 (a1 + x7_9)) (wrap64 ((wrap64 (a1 + x7_9)) + t160)) false)) = some (r1, r2, r3) := by rw [if_neg (show ¬ (false = true) by decide)] at H; exact H
                          clear H
                          have H := H1
                          clear H1
                          have HC23 := Aside0.mk H
                          clear H
                          go_upto_region 15 with (fail)
                          go_cut [79] (fun v79 wc => ∃ (kq : Nat) (x79_22 : Bool), v79 = .bool x79_22 ∧ Aside0 (sealringref05_Scan.j4 kq a0 x7_9 (wrap64 (a1 + x7_9)) (wrap64 ((wrap64 (a1 + x7_9)) + t160)) x79_22 = some (r1, r2, r3)) ∧ Aside0 (kq ≤ kj14) ∧ Drawn0 w wc)
                          case first =>
                            have H := HC23.out
                            clear HC23
                            by_cases c24 : (wrap64 ((wrap64 (a1 + x7_9)) + t160)) < (a0.size : Int)
                            · rw [if_pos c24] at H
                              have c24b0 : decide ((wrap64 ((wrap64 (a1 + x7_9)) + t160)) < (a0.size : Int)) = true := decide_eq_true c24
                              clear c24
                              (first | rw [c24b0] | (simp only [i64_w, i32_w]; rw [c24b0]) | skip)
                              obtain ⟨ji25, hji25⟩ : ∃ j_ : Int, (wrap64 ((wrap64 (a1 + x7_9)) + t160)) = j_ := ⟨_, rfl⟩
                              replace H : (if 0 ≤ (ji25) then (if (bt a0 (ji25)) = 46 then (sealringref05_Scan.j4 kj14 a0 x7_9 (wrap64 (a1 + x7_9)) (ji25) true) else (if (bt a0 (ji25)) = 101 then (sealringref05_Scan.j4 kj14 a0 x7_9 (wrap64 (a1 + x7_9)) (ji25) true) else (sealringref05_Scan.j4 kj14 a0 x7_9 (wrap64 (a1 + x7_9)) (ji25) ((bt a0 (ji25)) == 69)))) else (none)) = some (r1, r2, r3) := by first | (rw [hji25] at H; exact H) | (simp only [hji25] at H ⊢; exact H)
                              (try rw [hji25] at c24b0)
                              have hji25w : (IntKind.i64.wrap ((wrap64 (a1 + x7_9)) + t160)) = ji25 := (i64_w _).trans hji25
                              by_cases c26 : 0 ≤ (ji25)
                              · rw [if_pos c26] at H
                                have c26b0 : decide (0 ≤ (ji25)) = true := decide_eq_true c26
                                clear c26
                                by_cases c28 : (bt a0 (ji25)) = 46
                                · rw [if_pos c28] at H
                                  have c28b0 : ((bt a0 (ji25)) == 46) = true := beq_iff_eq.mpr c28
                                  have c28b1 : ((bt a0 (ji25)) != 46) = false := bne_eq_false_iff_eq.mpr c28
                                  clear c28
                                  have H' := Aside0.mk H
                                  clear H
                                  have p27 : 0 ≤ ((ji25) : Int) := of_decide_eq_true (by first | (with_reducible assumption) | assumption)
                                  have q27 : (ji25) < (a0.size : Int) := of_decide_eq_true (by first | (with_reducible assumption) | assumption)
                                  have hx27 := bt_at a0 (ji25)
                                  replace p27 := eq_true p27
                                  replace q27 := eq_true q27
                                  go_wp2
                                  go_meet
                                  case rel => exact ⟨_, (true), (by first | rfl | (simp; done) | (simp [*]; done) | (simp [wrap64]; done)), (by first | with_reducible exact H' | exact H' | (subst_vars; exact H')), ⟨by have := HJ2.out; have := HJ5.out; have := HJ9.out; have := HJ14.out; first | omega | exact Nat.le_refl _⟩, by repeat (first | exact Drawn0.refl _ | apply Drawn0.step)⟩
                                · rw [if_neg c28] at H
                                  have c28b0 : ((bt a0 (ji25)) == 46) = false := beq_eq_false_iff_ne.mpr c28
                                  have c28b1 : ((bt a0 (ji25)) != 46) = true := bne_iff_ne.mpr c28
                                  by_cases c30 : (bt a0 (ji25)) = 101
                                  · rw [if_pos c30] at H
                                    have c30b0 : ((bt a0 (ji25)) == 101) = true := beq_iff_eq.mpr c30
                                    have c30b1 : ((bt a0 (ji25)) != 101) = false := bne_eq_false_iff_eq.mpr c30
                                    clear c30
                                    have H' := Aside0.mk H
                                    clear H
                                    have p27 : 0 ≤ ((ji25) : Int) := of_decide_eq_true (by first | (with_reducible assumption) | assumption)
                                    have q27 : (ji25) < (a0.size : Int) := of_decide_eq_true (by first | (with_reducible assumption) | assumption)
                                    have hx27 := bt_at a0 (ji25)
                                    replace p27 := eq_true p27
                                    replace q27 := eq_true q27
                                    have p29 : 0 ≤ ((ji25) : Int) := of_decide_eq_true (by first | (with_reducible assumption) | assumption)
                                    have q29 : (ji25) < (a0.size : Int) := of_decide_eq_true (by first | (with_reducible assumption) | assumption)
                                    have hx29 := bt_at a0 (ji25)
                                    replace p29 := eq_true p29
                                    replace q29 := eq_true q29
                                    go_wp2
                                    go_meet
                                    case rel => exact ⟨_, (true), (by first | rfl | (simp; done) | (simp [*]; done) | (simp [wrap64]; done)), (by first | with_reducible exact H' | exact H' | (subst_vars; exact H')), ⟨by have := HJ2.out; have := HJ5.out; have := HJ9.out; have := HJ14.out; first | omega | exact Nat.le_refl _⟩, by repeat (first | exact Drawn0.refl _ | apply Drawn0.step)⟩
                                  · rw [if_neg c30] at H
                                    have c30b0 : ((bt a0 (ji25)) == 101) = false := beq_eq_false_iff_ne.mpr c30
                                    have c30b1 : ((bt a0 (ji25)) != 101) = true := bne_iff_ne.mpr c30
                                    have H' := Aside0.mk H
                                    clear H
                                    have p27 : 0 ≤ ((ji25) : Int) := of_decide_eq_true (by first | (with_reducible assumption) | assumption)
                                    have q27 : (ji25) < (a0.size : Int) := of_decide_eq_true (by first | (with_reducible assumption) | assumption)
                                    have hx27 := bt_at a0 (ji25)
                                    replace p27 := eq_true p27
                                    replace q27 := eq_true q27
                                    have p29 : 0 ≤ ((ji25) : Int) := of_decide_eq_true (by first | (with_reducible assumption) | assumption)
                                    have q29 : (ji25) < (a0.size : Int) := of_decide_eq_true (by first | (with_reducible assumption) | assumption)
                                    have hx29 := bt_at a0 (ji25)
                                    replace p29 := eq_true p29
                                    replace q29 := eq_true q29
                                    have p31 : 0 ≤ ((ji25) : Int) := of_decide_eq_true (by first | (with_reducible assumption) | assumption)
                                    have q31 : (ji25) < (a0.size : Int) := of_decide_eq_true (by first | (with_reducible assumption) | assumption)
                                    have hx31 := bt_at a0 (ji25)
                                    replace p31 := eq_true p31
                                    replace q31 := eq_true q31
                                    go_wp2
                                    go_meet
                                    case rel => exact ⟨_, (((bt a0 (ji25)) == 69)), (by first | rfl | (simp; done) | (simp only [← hji25] <;> (first | rfl | simp)) | (simp [*]; done) | (simp [wrap64]; done)), (by first | with_reducible exact H' | exact H' | (subst_vars; exact H')), ⟨by have := HJ2.out; have := HJ5.out; have := HJ9.out; have := HJ14.out; first | omega | exact Nat.le_refl _⟩, by repeat (first | exact Drawn0.refl _ | apply Drawn0.step)⟩
                              · rw [if_neg c26] at H
                                exact absurd H (by simp)
                            · rw [if_neg c24] at H
                              have c24b0 : decide ((wrap64 ((wrap64 (a1 + x7_9)) + t160)) < (a0.size : Int)) = false := decide_eq_false c24
                              clear c24
                              (first | rw [c24b0] | (simp only [i64_w, i32_w]; rw [c24b0]) | skip)
                              have H' := Aside0.mk H
                              clear H
                              go_wp2
                              go_meet
                              case rel => exact ⟨_, (false), (by first | rfl | (simp; done) | (simp [*]; done) | (simp [wrap64]; done)), (by first | with_reducible exact H' | exact H' | (subst_vars; exact H')), ⟨by have := HJ2.out; have := HJ5.out; have := HJ9.out; have := HJ14.out; first | omega | exact Nat.le_refl _⟩, by repeat (first | exact Drawn0.refl _ | apply Drawn0.step)⟩
                          case rest =>
                            clear HC23
                            try clear c1
                            try clear p1
                            try clear q1
                            try clear hx1
                            try clear c2
                            try clear p2
                            try clear q2
                            try clear hx2
                            try clear c3
                            try clear p3
                            try clear q3
                            try clear hx3
                            try clear c4
                            try clear c4b0
                            try clear c5
                            try clear p6
                            try clear c7
                            try clear c7b0
                            try clear c8
                            try clear c8b0
                            try clear c9
                            try clear p9
                            try clear q9
                            try clear hx9
                            try clear c11
                            try clear c12
                            try clear c12b0
                            try clear c12b1
                            try clear c14
                            try clear c14b0
                            try clear c14b1
                            try clear c17
                            try clear c17b0
                            try clear c18
                            try clear c18b0
                            try clear p19
                            try clear q19
                            try clear hx19
                            try clear c20
                            try clear c20b0
                            try clear c20b1
                            try clear c21
                            try clear c21b0
                            try clear c22
                            try clear c23
                            try clear c24
                            try clear c24b0
                            try clear c26
                            try clear c26b0
                            try clear p27
                            try clear q27
                            try clear hx27
                            try clear c28
                            try clear c28b0
                            try clear c28b1
                            try clear p29
                            try clear q29
                            try clear hx29
                            try clear c30
                            try clear c30b0
                            try clear c30b1
                            try clear p31
                            try clear q31
                            try clear hx31
                            try clear p1
                            try clear p19
                            try clear p2
                            try clear p27
                            try clear p29
                            try clear p31
                            try clear p6
                            try clear p9
                            try clear q1
                            try clear q19
                            try clear q27
                            try clear q29
                            try clear q31
                            try clear q9
                            obtain ⟨kq, x79_22, rfl, HA, HJ22, ⟨mc22, rfl⟩⟩ := hcut
                            cases kq with
                            | zero => exact absurd HA.out (by simp [sealringref05_Scan.j4])
                            | succ kj22 =>
                              have H := HA.out
                              clear HA
                              simp only [sealringref05_Scan.j4] at H
                              by_cases c32 : x79_22 = true
                              · subst c32
                                have H1 : (some (0, 0, 12)) = some (r1, r2, r3) := by rw [if_pos rfl] at H; exact H
                                clear H
                                have H := H1
                                clear H1
                                simp only [Option.some.injEq, Prod.mk.injEq] at H
                                obtain ⟨rfl, rfl, rfl⟩ := H
                                go_wp2
                                go_ret3
                                exact ⟨by first | rfl | (simp; done) | (simp [*]; done), by repeat (first | exact Drawn0.refl _ | apply Drawn0.step)⟩
                              · replace c32 := Bool.eq_false_iff.mpr c32
                                subst c32
                                have H1 : (if 0 ≤ (wrap64 (a1 + x7_9)) then (if (wrap64 (a1 + x7_9)) ≤ (wrap64 ((wrap64 (a1 + x7_9)) + t160)) then (if (wrap64 ((wrap64 (a1 + x7_9)) + t160)) ≤ (a0.size : Int) then ((sealringref05_small.f kj22 (a0.extract ((wrap64 (a1 + x7_9)) : Int).toNat ((wrap64 ((wrap64 (a1 + x7_9)) + t160)) : Int).toNat)).bind fun bt161 => (if bt161.2 = true then (if x7_9 = 1 then (some (wrap64 (-bt161.1), (wrap64 ((wrap64 (a1 + x7_9)) + t160)), 0)) else (some (bt161.1, (wrap64 ((wrap64 (a1 + x7_9)) + t160)), 0))) else (some (0, 0, 2)))) else (none)) else (none)) else (none)) = some (r1, r2, r3) := by rw [if_neg (show ¬ (false = true) by decide)] at H; exact H
                                clear H
                                have H := H1
                                clear H1
                                obtain ⟨ji33, hji33⟩ : ∃ j_ : Int, (wrap64 (a1 + x7_9)) = j_ := ⟨_, rfl⟩
                                replace H : (if 0 ≤ (ji33) then (if (ji33) ≤ (wrap64 ((ji33) + t160)) then (if (wrap64 ((ji33) + t160)) ≤ (a0.size : Int) then ((sealringref05_small.f kj22 (a0.extract ((ji33) : Int).toNat ((wrap64 ((ji33) + t160)) : Int).toNat)).bind fun bt161 => (if bt161.2 = true then (if x7_9 = 1 then (some (wrap64 (-bt161.1), (wrap64 ((ji33) + t160)), 0)) else (some (bt161.1, (wrap64 ((ji33) + t160)), 0))) else (some (0, 0, 2)))) else (none)) else (none)) else (none)) = some (r1, r2, r3) := by first | (rw [hji33] at H; exact H) | (simp only [hji33] at H ⊢; exact H)
                                (try rw [hji33] at c12b0)
                                (try rw [hji33] at c12b1)
                                have hji33w : (IntKind.i64.wrap (a1 + x7_9)) = ji33 := (i64_w _).trans hji33
                                by_cases c34 : 0 ≤ (ji33)
                                · rw [if_pos c34] at H
                                  have c34b0 := eq_true c34
                                  have c34b1 : decide (0 ≤ (ji33)) = true := decide_eq_true c34
                                  clear c34
                                  by_cases c35 : (ji33) ≤ (wrap64 ((ji33) + t160))
                                  · rw [if_pos c35] at H
                                    have c35b0 := eq_true c35
                                    have c35b1 : decide ((ji33) ≤ (wrap64 ((ji33) + t160))) = true := decide_eq_true c35
                                    by_cases c36 : (wrap64 ((ji33) + t160)) ≤ (a0.size : Int)
                                    · rw [if_pos c36] at H
                                      have c36b0 := eq_true c36
                                      have c36b1 : decide ((wrap64 ((ji33) + t160)) ≤ (a0.size : Int)) = true := decide_eq_true c36
                                      replace H := Option.bind_eq_some_iff.mp H
                                      obtain ⟨⟨t161, t162⟩, A370, H⟩ := H
                                      replace H : (if t162 = true then (if x7_9 = 1 then (some (wrap64 (-t161), (wrap64 ((ji33) + t160)), 0)) else (some (t161, (wrap64 ((ji33) + t160)), 0))) else (some (0, 0, 2))) = some (r1, r2, r3) := H
                                      have A37 := Aside0.mk A370
                                      clear A370
                                      by_cases c38 : t162 = true
                                      · subst c38
                                        have H1 : (if x7_9 = 1 then (some (wrap64 (-t161), (wrap64 ((ji33) + t160)), 0)) else (some (t161, (wrap64 ((ji33) + t160)), 0))) = some (r1, r2, r3) := by rw [if_pos rfl] at H; exact H
                                        clear H
                                        have H := H1
                                        clear H1
                                        by_cases c39 : x7_9 = 1
                                        · rw [if_pos c39] at H
                                          have c39b0 : (x7_9 == 1) = true := beq_iff_eq.mpr c39
                                          have c39b1 : (x7_9 != 1) = false := bne_eq_false_iff_eq.mpr c39
                                          clear c39
                                          simp only [Option.some.injEq, Prod.mk.injEq] at H
                                          obtain ⟨rfl, rfl, rfl⟩ := H
                                          go_wp2_with (first | ((with_reducible refine gate_callee (f := 33) rfl ?_); refine goesL_ (some 85) rfl rfl Try.func33 (by kernel_rfl) rfl #[.string (a0.extract ((ji33) : Int).toNat ((wrap64 ((ji33) + t160)) : Int).toNat)] rfl (by (try simp only [List.map_toArray, List.map_cons, List.map_nil]); first | done | (simp only [hji33]; rfl) | rfl | (simp only [List.length_drop, List.length_take]; rfl)) ?_; (with_reducible refine (sealringref05_small.calls kj22 (a0.extract ((ji33) : Int).toNat ((wrap64 ((ji33) + t160)) : Int).toNat) t161 true _ A37.out).mono ?_); rintro e w' ⟨rfl, ⟨nd, rfl⟩⟩; refine ⟨_, rfl, ?_⟩))
                                          go_ret3
                                          exact ⟨by first | rfl | (simp; done) | (simp only [← hji33] <;> (first | rfl | simp)) | (simp [*]; done), by repeat (first | exact Drawn0.refl _ | apply Drawn0.step)⟩
                                        · rw [if_neg c39] at H
                                          have c39b0 : (x7_9 == 1) = false := beq_eq_false_iff_ne.mpr c39
                                          have c39b1 : (x7_9 != 1) = true := bne_iff_ne.mpr c39
                                          simp only [Option.some.injEq, Prod.mk.injEq] at H
                                          obtain ⟨rfl, rfl, rfl⟩ := H
                                          go_wp2_with (first | ((with_reducible refine gate_callee (f := 33) rfl ?_); refine goesL_ (some 85) rfl rfl Try.func33 (by kernel_rfl) rfl #[.string (a0.extract ((ji33) : Int).toNat ((wrap64 ((ji33) + t160)) : Int).toNat)] rfl (by (try simp only [List.map_toArray, List.map_cons, List.map_nil]); first | done | (simp only [hji33]; rfl) | rfl | (simp only [List.length_drop, List.length_take]; rfl)) ?_; (with_reducible refine (sealringref05_small.calls kj22 (a0.extract ((ji33) : Int).toNat ((wrap64 ((ji33) + t160)) : Int).toNat) t161 true _ A37.out).mono ?_); rintro e w' ⟨rfl, ⟨nd, rfl⟩⟩; refine ⟨_, rfl, ?_⟩))
                                          go_ret3
                                          exact ⟨by first | rfl | (simp; done) | (simp only [← hji33] <;> (first | rfl | simp)) | (simp [*]; done), by repeat (first | exact Drawn0.refl _ | apply Drawn0.step)⟩
                                      · replace c38 := Bool.eq_false_iff.mpr c38
                                        subst c38
                                        have H1 : (some (0, 0, 2)) = some (r1, r2, r3) := by rw [if_neg (show ¬ (false = true) by decide)] at H; exact H
                                        clear H
                                        have H := H1
                                        clear H1
                                        simp only [Option.some.injEq, Prod.mk.injEq] at H
                                        obtain ⟨rfl, rfl, rfl⟩ := H
                                        go_wp2_with (first | ((with_reducible refine gate_callee (f := 33) rfl ?_); refine goesL_ (some 85) rfl rfl Try.func33 (by kernel_rfl) rfl #[.string (a0.extract ((ji33) : Int).toNat ((wrap64 ((ji33) + t160)) : Int).toNat)] rfl (by (try simp only [List.map_toArray, List.map_cons, List.map_nil]); first | done | (simp only [hji33]; rfl) | rfl | (simp only [List.length_drop, List.length_take]; rfl)) ?_; (with_reducible refine (sealringref05_small.calls kj22 (a0.extract ((ji33) : Int).toNat ((wrap64 ((ji33) + t160)) : Int).toNat) t161 false _ A37.out).mono ?_); rintro e w' ⟨rfl, ⟨nd, rfl⟩⟩; refine ⟨_, rfl, ?_⟩))
                                        go_ret3
                                        exact ⟨by first | rfl | (simp; done) | (simp only [← hji33] <;> (first | rfl | simp)) | (simp [*]; done), by repeat (first | exact Drawn0.refl _ | apply Drawn0.step)⟩
                                    · rw [if_neg c36] at H
                                      exact absurd H (by simp)
                                  · rw [if_neg c35] at H
                                    exact absurd H (by simp)
                                · rw [if_neg c34] at H
                                  exact absurd H (by simp)
end Go.Proofs.Ytjdgjifacdnkgaa.X
end
section
namespace Go.Proofs.Ytjdgjifacdnkgaa.X
open Go.RowKit Go.Proofs.YtjdgjifacdnkgaaW.PrintWords Go.Proofs.YtjdgjifacdnkgaaW.PrintLast
set_option linter.unusedVariables false
set_option linter.unusedSimpArgs false
theorem digits_ev (s : ByteArray) (b : Nat) (hs : s.size ≤ 140737488351232) (hb : b ≤ s.size) : ∀ (d K j : Nat), cntD s (b + j) K = d → s.size < b + j + K → b + j ≤ s.size →
    Ev (fun k => sealringref05_digits.l0 k s (b : Int) (j : Int)) ((j + d : Nat) : Int) := by
  intro d
  induction d with
  | zero =>
    intro K j hd hk hj
    have hx := cntD_end s K (b + j) hk
    rw [hd, Nat.add_zero] at hx
    refine Ev.step (f := fun _ => some (j : Int)) (fun k => ?_) (Ev.now _)
    rw [sealringref05_digits.l0]
    have e : wrap64 ((b : Int) + (j : Int)) = ((b + j : Nat) : Int) := by unfold wrap64; omega
    rw [e]
    by_cases c1 : ((b + j : Nat) : Int) < (s.size : Int)
    · rw [if_pos c1, if_pos (by omega)]
      by_cases c2 : 48 ≤ bt s ((b + j : Nat) : Int)
      · rw [if_pos c2]
        by_cases c3 : bt s ((b + j : Nat) : Int) ≤ 57
        · have := isDig_iff.2 ⟨c1, c2, c3⟩
          rw [hx] at this; cases this
        · rw [if_neg c3]
      · rw [if_neg c2]
    · rw [if_neg c1]
  | succ d ih =>
    intro K j hd hk hj
    cases K with
    | zero => simp [cntD] at hd
    | succ K =>
      unfold cntD at hd
      by_cases c : isDig s ((b + j : Nat) : Int) = true
      · rw [if_pos c] at hd
        have hc := isDig_iff.1 c
        have := ih K (j + 1) (by rw [show b + (j + 1) = b + j + 1 from by omega]; omega) (by omega) (by omega)
        rw [show j + (d + 1) = j + 1 + d from by omega]
        refine Ev.step (fun k => ?_) this
        rw [sealringref05_digits.l0]
        have e : wrap64 ((b : Int) + (j : Int)) = ((b + j : Nat) : Int) := by unfold wrap64; omega
        rw [e, if_pos hc.1, if_pos (by omega), if_pos hc.2.1, if_pos hc.2.2, w64s j (by omega)]
      · rw [if_neg c] at hd; omega
theorem nsmall_ev (s : ByteArray) (b e : Nat) (hs : s.size ≤ 140737488351232) (hbe : b ≤ e) (he : e ≤ s.size) (hq : ∀ q, b + q < e → isDig s ((b + q : Nat) : Int) = true) (h16 : e - b ≤ 16) :
    ∀ (d j : Nat), b + j + d = e → Ev (fun k => sealringref05_small.l0 k (s.extract b e) (valD s b j) (j : Int)) (valD s b (e - b), decide (valD s b (e - b) ≤ 9007199254740991)) := by
  intro d
  induction d with
  | zero =>
    intro j hj
    have hj' : e - b = j := by omega
    refine Ev.step (f := fun _ => some _) (fun k => ?_) (Ev.now _)
    rw [sealringref05_small.l0, size_ext s b e he, if_neg (by omega), hj']
  | succ d ih =>
    intro j hj
    have hd := isDig_iff.1 (hq j (by omega))
    have hl := valD_le s b j (fun q hq2 => hq q (by omega))
    have hn := valD_nn s b j (fun q hq2 => hq q (by omega))
    have hp : (10 : Int) ^ j ≤ 10 ^ 15 := pow10_le (by omega)
    refine Ev.step (fun k => ?_) (ih (j + 1) (by omega))
    rw [sealringref05_small.l0, size_ext s b e he, if_pos (by omega), if_pos (by omega), bt_ext s b e j he (by omega), w64s j (by omega)]
    have e1 : wrap64 (10 * valD s b j) = 10 * valD s b j := by unfold wrap64; omega
    have e2 : (bt s ((b + j : Nat) : Int) - 48) % 256 = bt s ((b + j : Nat) : Int) - 48 := by omega
    have e3 : wrap64 (10 * valD s b j + (bt s ((b + j : Nat) : Int) - 48)) = valD s b (j + 1) := by
      simp only [valD]; unfold wrap64; omega
    rw [e1, e2, e3]
theorem j4_ev (s : ByteArray) (hs : s.size ≤ 140737488351232) (a : Int) (x7 : Int) (b D : Nat) (n' : Int) (h7 : x7 = 1 ∨ x7 = 0) (hba : ((b : Int) > a) ↔ x7 = 1) (hD : 0 < D) (hbD : b + D ≤ s.size)
    (hq : ∀ q, q < D → isDig s ((b + q : Nat) : Int) = true) (hn : valD s b D ≤ 9007199254740991 → n' = valD s b D) (h48 : ¬ (bt s (b : Int) = 48 ∧ (((b + D : Nat) : Int) > (b : Int) + 1 ∨ (b : Int) > a)))
    (fl : Bool) (hfl : fl = true ↔ (((b + D : Nat) : Int) < (s.size : Int) ∧ (bt s ((b + D : Nat) : Int) = 46 ∨ bt s ((b + D : Nat) : Int) = 101 ∨ bt s ((b + D : Nat) : Int) = 69))) :
    Ev (fun k => sealringref05_Scan.j4 k s x7 (b : Int) ((b + D : Nat) : Int) fl) (scanEnd s a (b : Int) n' ((b + D : Nat) : Int) (decide (9007199254740991 < valD s b D))) := by
  unfold scanEnd
  rw [if_neg h48]
  cases fl with
  | true =>
    rw [if_pos (hfl.1 rfl)]
    refine Ev.step (f := fun _ => some _) (fun k => ?_) (Ev.now _)
    rw [sealringref05_Scan.j4, if_pos rfl]
  | false =>
    rw [if_neg (fun h => by have := hfl.2 h; cases this)]
    refine Ev.step (f := fun k => (sealringref05_small.f k (s.extract b (b + D))).bind fun bt209 => (if bt209.2 = true then (if x7 = 1 then (some (wrap64 (-bt209.1), ((b + D : Nat) : Int), 0)) else (some (bt209.1, ((b + D : Nat) : Int), 0))) else (some (0, 0, 2)))) (fun k => ?_) ?_
    · rw [sealringref05_Scan.j4, if_neg (by simp), if_pos (by omega), if_pos (by omega), if_pos (by omega)]
      rfl
    · have hvn := valD_nn s b D hq
      by_cases h16 : D ≤ 16
      · have hsm := nsmall_ev s b (b + D) hs (by omega) hbD (fun q hq2 => hq q (by omega)) (by omega) D 0 (by omega)
        have hsf : Ev (fun k => sealringref05_small.f k (s.extract b (b + D))) (valD s b D, decide (valD s b D ≤ 9007199254740991)) := by
          unfold sealringref05_small.f
          rw [size_ext s b (b + D) hbD]
          refine evNeg (by omega) ?_
          have e : b + D - b = D := by omega
          rw [e] at hsm
          exact hsm
        refine Ev.bind hsf ?_
        by_cases ho : valD s b D ≤ 9007199254740991
        · refine evPos (by simpa using ho) ?_
          have hl := valD_le s b D hq
          have hw : wrap64 (-valD s b D) = -valD s b D := by unfold wrap64; omega
          rw [if_neg (show ¬ (decide (9007199254740991 < valD s b D) = true) by simpa using ho)]
          rcases h7 with h7 | h7
          · refine evPos h7 ?_
            rw [if_pos (hba.2 h7), hw, hn ho]
            exact Ev.now _
          · refine evNeg (by omega) ?_
            rw [if_neg (fun h => by have := hba.1 h; omega), hn ho]
            exact Ev.now _
        · refine evNeg (by simpa using ho) ?_
          rw [if_pos (show decide (9007199254740991 < valD s b D) = true by simp; omega)]
          exact Ev.now _
      · have hsf : Ev (fun k => sealringref05_small.f k (s.extract b (b + D))) (0, false) := by
          unfold sealringref05_small.f
          rw [size_ext s b (b + D) hbD]
          exact evPos (by omega) (Ev.now _)
        refine Ev.bind hsf (evNeg (by simp) ?_)
        have hne : bt s (b : Int) ≠ 48 := fun h => h48 ⟨h, .inl (by omega)⟩
        have hg := valD_ge s b hne (D - 1) (fun j hj => hq j (by omega))
        rw [show D - 1 + 1 = D from by omega] at hg
        have hp : (10 : Int) ^ 16 ≤ 10 ^ (D - 1) := pow10_le (by omega)
        rw [if_pos (by simp; omega)]
        exact Ev.now _
theorem j3_ev (s : ByteArray) (hs : s.size ≤ 140737488351232) (a : Int) (x7 : Int) (b D : Nat) (n' : Int) (h7 : x7 = 1 ∨ x7 = 0) (hba : ((b : Int) > a) ↔ x7 = 1) (hD : 0 < D) (hbD : b + D ≤ s.size)
    (hq : ∀ q, q < D → isDig s ((b + q : Nat) : Int) = true) (hn : valD s b D ≤ 9007199254740991 → n' = valD s b D)
    (fl : Bool) (hfl : fl = true ↔ (bt s (b : Int) = 48 ∧ (((b + D : Nat) : Int) > (b : Int) + 1 ∨ (b : Int) > a))) :
    Ev (fun k => sealringref05_Scan.j3 k s x7 (b : Int) ((b + D : Nat) : Int) fl) (scanEnd s a (b : Int) n' ((b + D : Nat) : Int) (decide (9007199254740991 < valD s b D))) := by
  cases fl with
  | true =>
    unfold scanEnd
    rw [if_pos (hfl.1 rfl)]
    refine Ev.step (f := fun _ => some _) (fun k => ?_) (Ev.now _)
    rw [sealringref05_Scan.j3, if_pos rfl]
  | false =>
    have h48 : ¬ (bt s (b : Int) = 48 ∧ (((b + D : Nat) : Int) > (b : Int) + 1 ∨ (b : Int) > a)) := fun h => by have := hfl.2 h; cases this
    by_cases c1 : ((b + D : Nat) : Int) < (s.size : Int)
    · by_cases c2 : bt s ((b + D : Nat) : Int) = 46
      · refine Ev.step (fun k => ?_) (j4_ev s hs a x7 b D n' h7 hba hD hbD hq hn h48 true ⟨fun _ => ⟨c1, .inl c2⟩, fun _ => rfl⟩)
        rw [sealringref05_Scan.j3, if_neg (by simp), if_pos c1, if_pos (by omega), if_pos c2]
      · by_cases c3 : bt s ((b + D : Nat) : Int) = 101
        · refine Ev.step (fun k => ?_) (j4_ev s hs a x7 b D n' h7 hba hD hbD hq hn h48 true ⟨fun _ => ⟨c1, .inr (.inl c3)⟩, fun _ => rfl⟩)
          rw [sealringref05_Scan.j3, if_neg (by simp), if_pos c1, if_pos (by omega), if_neg c2, if_pos c3]
        · refine Ev.step (fun k => ?_) (j4_ev s hs a x7 b D n' h7 hba hD hbD hq hn h48 (bt s ((b + D : Nat) : Int) == 69) (by rw [beq_iff_eq]; exact ⟨fun h => ⟨c1, .inr (.inr h)⟩, fun h => h.2.elim (fun e => absurd e c2) (fun e => e.elim (fun e => absurd e c3) id)⟩))
          rw [sealringref05_Scan.j3, if_neg (by simp), if_pos c1, if_pos (by omega), if_neg c2, if_neg c3]
    · refine Ev.step (fun k => ?_) (j4_ev s hs a x7 b D n' h7 hba hD hbD hq hn h48 false ⟨fun h => (by cases h), fun h => absurd h.1 c1⟩)
      rw [sealringref05_Scan.j3, if_neg (by simp), if_neg c1]
theorem j2_ev (s : ByteArray) (hs : s.size ≤ 140737488351232) (a : Int) (x7 : Int) (b : Nat) (h7 : x7 = 1 ∨ x7 = 0) (hb : (b : Int) = a + x7) (hbs : b ≤ s.size) :
    Ev (fun k => sealringref05_Scan.j2 k s a x7) (scanFrom s a (b : Int)) := by
  have hw : wrap64 (a + x7) = (b : Int) := by rw [← hb]; unfold wrap64; omega
  by_cases c1 : (b : Int) = (s.size : Int)
  · unfold scanFrom
    rw [if_pos c1]
    refine Ev.step (f := fun _ => some _) (fun k => ?_) (Ev.now _)
    rw [sealringref05_Scan.j2, hw, if_pos c1]
  · have hdg := digits_ev s b hs hbs (cntD s b (s.size - b + 1)) (s.size - b + 1) 0 rfl (by omega) (by omega)
    rw [Nat.zero_add] at hdg
    by_cases c2 : isDig s (b : Int) = true
    · obtain ⟨D, n', h1, h2, h3, h4, h5, h6⟩ := scan_from s a b (by omega) c2
      rw [h5]
      rw [h1] at hdg
      have hwd : wrap64 ((b : Int) + (D : Int)) = ((b + D : Nat) : Int) := by unfold wrap64; omega
      have hba : ((b : Int) > a) ↔ x7 = 1 := by rcases h7 with h | h <;> omega
      refine Ev.step (fun k => ?g2) (Ev.bind (f := ?f2) hdg ?h2)
      case g2 =>
        rw [sealringref05_Scan.j2, hw, if_neg c1]
        rfl
      case h2 =>
        refine evNeg (by omega) (evPos (by omega) (evPos (by omega) ?_))
        rw [hwd]
        by_cases c3 : bt s (b : Int) = 48
        · refine evPos c3 ?_
          by_cases c4 : (D : Int) > 1
          · exact evPos c4 (j3_ev s hs a x7 b D n' h7 hba h2 h3 h4 h6 true ⟨fun _ => ⟨c3, .inl (by omega)⟩, fun _ => rfl⟩)
          · refine evNeg c4 (j3_ev s hs a x7 b D n' h7 hba h2 h3 h4 h6 (x7 == 1) ?_)
            rw [beq_iff_eq, ← hba]
            exact ⟨fun h => ⟨c3, .inr h⟩, fun h => h.2.elim (fun e => by omega) id⟩
        · exact evNeg c3 (j3_ev s hs a x7 b D n' h7 hba h2 h3 h4 h6 false ⟨fun h => (by cases h), fun h => absurd h.1 c3⟩)
    · have hz : cntD s b (s.size - b + 1) = 0 := by unfold cntD; rw [if_neg c2]
      rw [hz] at hdg
      unfold scanFrom
      rw [if_neg c1, if_neg c2]
      refine Ev.step (fun k => ?g3) (Ev.bind (f := ?f3) hdg ?h3)
      case g3 =>
        rw [sealringref05_Scan.j2, hw, if_neg c1]
        rfl
      case h3 => exact evPos rfl (Ev.now _)
theorem refScan_ev (s : ByteArray) (hs : s.size ≤ 140737488351232) (a : Int) : Ev (fun k => sealringref05_Scan.f k s a) (numScan s a) := by
  unfold sealringref05_Scan.f numScan
  by_cases c1 : a < 0
  · rw [if_pos c1]
    refine evPos c1 (Ev.step (f := fun _ => some _) (fun k => ?_) (Ev.now _))
    rw [sealringref05_Scan.j0, if_pos rfl]
  rw [if_neg c1]
  refine evNeg c1 ?_
  by_cases c2 : a > (s.size : Int)
  · rw [if_pos c2]
    refine Ev.step (f := fun _ => some _) (fun k => ?_) (Ev.now _)
    rw [sealringref05_Scan.j0, if_pos (by simpa using c2)]
  rw [if_neg c2]
  have hd : decide (a > (s.size : Int)) = false := by simpa using c2
  simp only [hd]
  obtain ⟨b, rfl⟩ : ∃ b : Nat, a = (b : Int) := ⟨a.toNat, by omega⟩
  by_cases c3 : (b : Int) < (s.size : Int)
  · by_cases c4 : bt s (b : Int) = 45
    · rw [if_pos ⟨c3, c4⟩]
      have h2 := j2_ev s hs (b : Int) 1 (b + 1) (.inl rfl) (by omega) (by omega)
      refine Ev.step (fun k => ?_) (Ev.step (g := fun k => sealringref05_Scan.j1 k s (b : Int) 0 true) (fun k => ?_) h2)
      · rw [sealringref05_Scan.j0, if_neg (by simp), if_pos c3, if_pos (by omega)]
        rw [c4]; rfl
      · rw [sealringref05_Scan.j1, if_pos rfl]
    · rw [if_neg (fun h => c4 h.2)]
      have h2 := j2_ev s hs (b : Int) 0 b (.inr rfl) (by omega) (by omega)
      refine Ev.step (fun k => ?_) (Ev.step (g := fun k => sealringref05_Scan.j1 k s (b : Int) 0 false) (fun k => ?_) h2)
      · rw [sealringref05_Scan.j0, if_neg (by simp), if_pos c3, if_pos (by omega)]
        rw [show (bt s (b : Int) == 45) = false from by simpa using c4]
      · rw [sealringref05_Scan.j1, if_neg (by simp)]
  · rw [if_neg (fun h => c3 h.1)]
    have h2 := j2_ev s hs (b : Int) 0 b (.inr rfl) (by omega) (by omega)
    refine Ev.step (fun k => ?_) (Ev.step (g := fun k => sealringref05_Scan.j1 k s (b : Int) 0 false) (fun k => ?_) h2)
    · rw [sealringref05_Scan.j0, if_neg (by simp), if_neg c3]
    · rw [sealringref05_Scan.j1, if_neg (by simp)]
end Go.Proofs.Ytjdgjifacdnkgaa.X
end
section
namespace Go.Proofs.Ytjdgjifacdnkgaa.X
open Go.RowKit Go.Proofs.YtjdgjifacdnkgaaW.PrintWords Go.Proofs.YtjdgjifacdnkgaaW.PrintLast Go.Proofs.YtjdgjifacdnkgaaW.PrintMore
attribute [local go_sem] max2_int min2_int max_two min_two max_three min_three max_four min_four
set_option linter.unusedVariables false
set_option linter.unusedSimpArgs false
def sealringref06_blanks.l0 : Nat → ByteArray → Int → Option (Int)
  | 0, _, _ => none
  | k + 1, x0, x1 => if x1 < (x0.size : Int) then (if 0 ≤ x1 then (if (bt x0 x1) = 9 then (sealringref06_blanks.l0 k x0 (wrap64 (x1 + 1))) else (if (bt x0 x1) = 10 then (sealringref06_blanks.l0 k x0 (wrap64 (x1 + 1))) else (if (bt x0 x1) = 13 then (sealringref06_blanks.l0 k x0 (wrap64 (x1 + 1))) else (if (bt x0 x1) = 32 then (sealringref06_blanks.l0 k x0 (wrap64 (x1 + 1))) else (some x1))))) else (none)) else (some x1)
def sealringref06_blanks.f (k : Nat) (a0 : ByteArray) (a1 : Int) : Option (Int) := sealringref06_blanks.l0 k a0 a1
theorem sealringref06_blanks.mono_l : ∀ k, (∀ y0 y1, LeO (sealringref06_blanks.l0 k y0 y1) (sealringref06_blanks.l0 (k + 1) y0 y1))
  | 0 => fun _ _ r h => by simp [sealringref06_blanks.l0] at h
  | k + 1 => by
    have ih0 := sealringref06_blanks.mono_l k
    · intro y0 y1
      unfold sealringref06_blanks.l0
      repeat' first
      | (with_reducible exact ih0 _ _)
      | (with_reducible exact LeO.refl _)
      | (with_reducible exact LeO.none _)
      | (with_reducible refine LeO.ite ?_ ?_)
      | (with_reducible refine LeO.bind ?_ (fun _ => ?_))
      | exact ih0 _ _
      | exact LeO.none _
      | refine LeO.ite ?_ ?_
      | refine LeO.bind ?_ (fun _ => ?_)
theorem sealringref06_blanks.mono : ∀ a0 a1 k, LeO (sealringref06_blanks.f k a0 a1) (sealringref06_blanks.f (k + 1) a0 a1) := by
  intro a0 a1 k
  have ih0 := sealringref06_blanks.mono_l k
  unfold sealringref06_blanks.f
  repeat' first
      | (with_reducible exact ih0 _ _)
      | (with_reducible exact LeO.refl _)
      | (with_reducible exact LeO.none _)
      | (with_reducible refine LeO.ite ?_ ?_)
      | (with_reducible refine LeO.bind ?_ (fun _ => ?_))
      | exact ih0 _ _
      | exact LeO.none _
      | refine LeO.ite ?_ ?_
      | refine LeO.bind ?_ (fun _ => ?_)
set_option maxHeartbeats 8000000 in
set_option maxRecDepth 100000 in
theorem sealringref06_blanks.calls (k : Nat) (a0 : ByteArray) (a1 : Int) (r : Int) (w : World) (h : sealringref06_blanks.f k a0 a1 = some r) :
    Calls Try.prog 20 #[.string a0, .int .i64 a1] w fun e w' => e = .returned (.int .i64 r) ∧ Drawn0 w w' := by
  have H : (sealringref06_blanks.l0 k a0 a1) = some r := h
  clear h
  have H' := Aside0.mk H
  clear H
  go_enter Try.func20, Try.ntmps20
  go_wp2
  go_loopg [1] k (fun kq v1 w' => ∃ (x1_1 : Int), v1 = .int .i64 x1_1 ∧ Aside0 (sealringref06_blanks.l0 kq a0 x1_1 = some r) ∧ Aside0 (kq ≤ k) ∧ Drawn0 w w')
  case atStart => exact ⟨(a1), (by first | rfl | (simp; done) | (simp [*]; done) | (simp [wrap64]; done)), (by first | with_reducible exact H' | exact H' | (subst_vars; exact H')), ⟨Nat.le_refl _⟩, by repeat (first | exact Drawn0.refl _ | apply Drawn0.step)⟩
  case round =>
    clear H'
    try clear c2
    try clear p2
    obtain ⟨x1_1, rfl, HA, HK1, ⟨m1, rfl⟩⟩ := hrel
    cases gk with
    | zero => exact absurd HA.out (by simp [sealringref06_blanks.l0])
    | succ k1 =>
      have H := HA.out
      clear HA
      simp only [sealringref06_blanks.l0] at H
      by_cases c3 : x1_1 < (a0.size : Int)
      · rw [if_pos c3] at H
        have c3b0 : decide (x1_1 < (a0.size : Int)) = true := decide_eq_true c3
        clear c3
        by_cases c4 : 0 ≤ x1_1
        · rw [if_pos c4] at H
          have c4b0 : decide (0 ≤ x1_1) = true := decide_eq_true c4
          clear c4
          by_cases c6 : (bt a0 x1_1) = 9
          · rw [if_pos c6] at H
            have c6b0 : ((bt a0 x1_1) == 9) = true := beq_iff_eq.mpr c6
            have c6b1 : ((bt a0 x1_1) != 9) = false := bne_eq_false_iff_eq.mpr c6
            clear c6
            have H' := Aside0.mk H
            clear H
            have p5 : 0 ≤ (x1_1 : Int) := of_decide_eq_true (by first | (with_reducible assumption) | assumption)
            have q5 : x1_1 < (a0.size : Int) := of_decide_eq_true (by first | (with_reducible assumption) | assumption)
            have hx5 := bt_at a0 x1_1
            replace p5 := eq_true p5
            replace q5 := eq_true q5
            go_wp2
            go_roundg k1
            case measure => have := HK1.out; omega
            case rel => exact ⟨(wrap64 (x1_1 + 1)), (by first | rfl | (simp; done) | (simp [*]; done) | (simp [wrap64]; done)), (by first | with_reducible exact H' | exact H' | (subst_vars; exact H')), ⟨by have := HK1.out; omega⟩, by repeat (first | exact Drawn0.refl _ | apply Drawn0.step)⟩
          · rw [if_neg c6] at H
            have c6b0 : ((bt a0 x1_1) == 9) = false := beq_eq_false_iff_ne.mpr c6
            have c6b1 : ((bt a0 x1_1) != 9) = true := bne_iff_ne.mpr c6
            by_cases c8 : (bt a0 x1_1) = 10
            · rw [if_pos c8] at H
              have c8b0 : ((bt a0 x1_1) == 10) = true := beq_iff_eq.mpr c8
              have c8b1 : ((bt a0 x1_1) != 10) = false := bne_eq_false_iff_eq.mpr c8
              clear c8
              have H' := Aside0.mk H
              clear H
              have p5 : 0 ≤ (x1_1 : Int) := of_decide_eq_true (by first | (with_reducible assumption) | assumption)
              have q5 : x1_1 < (a0.size : Int) := of_decide_eq_true (by first | (with_reducible assumption) | assumption)
              have hx5 := bt_at a0 x1_1
              replace p5 := eq_true p5
              replace q5 := eq_true q5
              have p7 : 0 ≤ (x1_1 : Int) := of_decide_eq_true (by first | (with_reducible assumption) | assumption)
              have q7 : x1_1 < (a0.size : Int) := of_decide_eq_true (by first | (with_reducible assumption) | assumption)
              have hx7 := bt_at a0 x1_1
              replace p7 := eq_true p7
              replace q7 := eq_true q7
              go_wp2
              go_roundg k1
              case measure => have := HK1.out; omega
              case rel => exact ⟨(wrap64 (x1_1 + 1)), (by first | rfl | (simp; done) | (simp [*]; done) | (simp [wrap64]; done)), (by first | with_reducible exact H' | exact H' | (subst_vars; exact H')), ⟨by have := HK1.out; omega⟩, by repeat (first | exact Drawn0.refl _ | apply Drawn0.step)⟩
            · rw [if_neg c8] at H
              have c8b0 : ((bt a0 x1_1) == 10) = false := beq_eq_false_iff_ne.mpr c8
              have c8b1 : ((bt a0 x1_1) != 10) = true := bne_iff_ne.mpr c8
              by_cases c10 : (bt a0 x1_1) = 13
              · rw [if_pos c10] at H
                have c10b0 : ((bt a0 x1_1) == 13) = true := beq_iff_eq.mpr c10
                have c10b1 : ((bt a0 x1_1) != 13) = false := bne_eq_false_iff_eq.mpr c10
                clear c10
                have H' := Aside0.mk H
                clear H
                have p5 : 0 ≤ (x1_1 : Int) := of_decide_eq_true (by first | (with_reducible assumption) | assumption)
                have q5 : x1_1 < (a0.size : Int) := of_decide_eq_true (by first | (with_reducible assumption) | assumption)
                have hx5 := bt_at a0 x1_1
                replace p5 := eq_true p5
                replace q5 := eq_true q5
                have p7 : 0 ≤ (x1_1 : Int) := of_decide_eq_true (by first | (with_reducible assumption) | assumption)
                have q7 : x1_1 < (a0.size : Int) := of_decide_eq_true (by first | (with_reducible assumption) | assumption)
                have hx7 := bt_at a0 x1_1
                replace p7 := eq_true p7
                replace q7 := eq_true q7
                have p9 : 0 ≤ (x1_1 : Int) := of_decide_eq_true (by first | (with_reducible assumption) | assumption)
                have q9 : x1_1 < (a0.size : Int) := of_decide_eq_true (by first | (with_reducible assumption) | assumption)
                have hx9 := bt_at a0 x1_1
                replace p9 := eq_true p9
                replace q9 := eq_true q9
                go_wp2
                go_roundg k1
                case measure => have := HK1.out; omega
                case rel => exact ⟨(wrap64 (x1_1 + 1)), (by first | rfl | (simp; done) | (simp [*]; done) | (simp [wrap64]; done)), (by first | with_reducible exact H' | exact H' | (subst_vars; exact H')), ⟨by have := HK1.out; omega⟩, by repeat (first | exact Drawn0.refl _ | apply Drawn0.step)⟩
              · rw [if_neg c10] at H
                have c10b0 : ((bt a0 x1_1) == 13) = false := beq_eq_false_iff_ne.mpr c10
                have c10b1 : ((bt a0 x1_1) != 13) = true := bne_iff_ne.mpr c10
                by_cases c12 : (bt a0 x1_1) = 32
                · rw [if_pos c12] at H
                  have c12b0 : ((bt a0 x1_1) == 32) = true := beq_iff_eq.mpr c12
                  have c12b1 : ((bt a0 x1_1) != 32) = false := bne_eq_false_iff_eq.mpr c12
                  clear c12
                  have H' := Aside0.mk H
                  clear H
                  have p5 : 0 ≤ (x1_1 : Int) := of_decide_eq_true (by first | (with_reducible assumption) | assumption)
                  have q5 : x1_1 < (a0.size : Int) := of_decide_eq_true (by first | (with_reducible assumption) | assumption)
                  have hx5 := bt_at a0 x1_1
                  replace p5 := eq_true p5
                  replace q5 := eq_true q5
                  have p7 : 0 ≤ (x1_1 : Int) := of_decide_eq_true (by first | (with_reducible assumption) | assumption)
                  have q7 : x1_1 < (a0.size : Int) := of_decide_eq_true (by first | (with_reducible assumption) | assumption)
                  have hx7 := bt_at a0 x1_1
                  replace p7 := eq_true p7
                  replace q7 := eq_true q7
                  have p9 : 0 ≤ (x1_1 : Int) := of_decide_eq_true (by first | (with_reducible assumption) | assumption)
                  have q9 : x1_1 < (a0.size : Int) := of_decide_eq_true (by first | (with_reducible assumption) | assumption)
                  have hx9 := bt_at a0 x1_1
                  replace p9 := eq_true p9
                  replace q9 := eq_true q9
                  have p11 : 0 ≤ (x1_1 : Int) := of_decide_eq_true (by first | (with_reducible assumption) | assumption)
                  have q11 : x1_1 < (a0.size : Int) := of_decide_eq_true (by first | (with_reducible assumption) | assumption)
                  have hx11 := bt_at a0 x1_1
                  replace p11 := eq_true p11
                  replace q11 := eq_true q11
                  go_wp2
                  go_roundg k1
                  case measure => have := HK1.out; omega
                  case rel => exact ⟨(wrap64 (x1_1 + 1)), (by first | rfl | (simp; done) | (simp [*]; done) | (simp [wrap64]; done)), (by first | with_reducible exact H' | exact H' | (subst_vars; exact H')), ⟨by have := HK1.out; omega⟩, by repeat (first | exact Drawn0.refl _ | apply Drawn0.step)⟩
                · rw [if_neg c12] at H
                  have c12b0 : ((bt a0 x1_1) == 32) = false := beq_eq_false_iff_ne.mpr c12
                  have c12b1 : ((bt a0 x1_1) != 32) = true := bne_iff_ne.mpr c12
                  obtain rfl := Option.some.inj H
                  have p5 : 0 ≤ (x1_1 : Int) := of_decide_eq_true (by first | (with_reducible assumption) | assumption)
                  have q5 : x1_1 < (a0.size : Int) := of_decide_eq_true (by first | (with_reducible assumption) | assumption)
                  have hx5 := bt_at a0 x1_1
                  replace p5 := eq_true p5
                  replace q5 := eq_true q5
                  have p7 : 0 ≤ (x1_1 : Int) := of_decide_eq_true (by first | (with_reducible assumption) | assumption)
                  have q7 : x1_1 < (a0.size : Int) := of_decide_eq_true (by first | (with_reducible assumption) | assumption)
                  have hx7 := bt_at a0 x1_1
                  replace p7 := eq_true p7
                  replace q7 := eq_true q7
                  have p9 : 0 ≤ (x1_1 : Int) := of_decide_eq_true (by first | (with_reducible assumption) | assumption)
                  have q9 : x1_1 < (a0.size : Int) := of_decide_eq_true (by first | (with_reducible assumption) | assumption)
                  have hx9 := bt_at a0 x1_1
                  replace p9 := eq_true p9
                  replace q9 := eq_true q9
                  have p11 : 0 ≤ (x1_1 : Int) := of_decide_eq_true (by first | (with_reducible assumption) | assumption)
                  have q11 : x1_1 < (a0.size : Int) := of_decide_eq_true (by first | (with_reducible assumption) | assumption)
                  have hx11 := bt_at a0 x1_1
                  replace p11 := eq_true p11
                  replace q11 := eq_true q11
                  go_wp2
                  go_ret
                  exact ⟨by first | rfl | (simp; done) | (simp [*]; done), by repeat (first | exact Drawn0.refl _ | apply Drawn0.step)⟩
        · rw [if_neg c4] at H
          exact absurd H (by simp)
      · rw [if_neg c3] at H
        have c3b0 : decide (x1_1 < (a0.size : Int)) = false := decide_eq_false c3
        clear c3
        obtain rfl := Option.some.inj H
        go_wp2
        go_ret
        exact ⟨by first | rfl | (simp; done) | (simp [*]; done), by repeat (first | exact Drawn0.refl _ | apply Drawn0.step)⟩
end Go.Proofs.Ytjdgjifacdnkgaa.X
end
section
namespace Go.Proofs.Ytjdgjifacdnkgaa.X
open Go.RowKit Go.Proofs.YtjdgjifacdnkgaaW.PrintWords Go.Proofs.YtjdgjifacdnkgaaW.PrintLast Go.Proofs.YtjdgjifacdnkgaaW.PrintMore
attribute [local go_sem] max2_int min2_int max_two min_two max_three min_three max_four min_four
set_option linter.unusedVariables false
set_option linter.unusedSimpArgs false
def sealringref06_word.f (a0 : ByteArray) (a1 : Int) (a2 : ByteArray) : Option (Bool) := if (wrap64 ((a0.size : Int) - a1)) ≥ (a2.size : Int) then (if 0 ≤ a1 then (if a1 ≤ (wrap64 (a1 + (a2.size : Int))) then (if (wrap64 (a1 + (a2.size : Int))) ≤ (a0.size : Int) then (some ((a0.extract (a1 : Int).toNat ((wrap64 (a1 + (a2.size : Int))) : Int).toNat).toList == a2.toList)) else (none)) else (none)) else (none)) else (some false)
set_option maxHeartbeats 8000000 in
set_option maxRecDepth 100000 in
theorem sealringref06_word.calls (a0 : ByteArray) (a1 : Int) (a2 : ByteArray) (r : Bool) (w : World) (h : sealringref06_word.f a0 a1 a2 = some r) :
    Calls Try.prog 21 #[.string a0, .int .i64 a1, .string a2] w fun e w' => e = .returned (.bool r) ∧ Drawn0 w w' := by
  have H : (if (wrap64 ((a0.size : Int) - a1)) ≥ (a2.size : Int) then (if 0 ≤ a1 then (if a1 ≤ (wrap64 (a1 + (a2.size : Int))) then (if (wrap64 (a1 + (a2.size : Int))) ≤ (a0.size : Int) then (some ((a0.extract (a1 : Int).toNat ((wrap64 (a1 + (a2.size : Int))) : Int).toNat).toList == a2.toList)) else (none)) else (none)) else (none)) else (some false)) = some r := h
  clear h
  by_cases c4 : (wrap64 ((a0.size : Int) - a1)) ≥ (a2.size : Int)
  · rw [if_pos c4] at H
    have c4b0 : decide ((a2.size : Int) ≤ (wrap64 ((a0.size : Int) - a1))) = true := decide_eq_true c4
    clear c4
    by_cases c5 : 0 ≤ a1
    · rw [if_pos c5] at H
      have c5b0 := eq_true c5
      have c5b1 : decide (0 ≤ a1) = true := decide_eq_true c5
      clear c5
      by_cases c6 : a1 ≤ (wrap64 (a1 + (a2.size : Int)))
      · rw [if_pos c6] at H
        have c6b0 := eq_true c6
        have c6b1 : decide (a1 ≤ (wrap64 (a1 + (a2.size : Int)))) = true := decide_eq_true c6
        by_cases c7 : (wrap64 (a1 + (a2.size : Int))) ≤ (a0.size : Int)
        · rw [if_pos c7] at H
          have c7b0 := eq_true c7
          have c7b1 : decide ((wrap64 (a1 + (a2.size : Int))) ≤ (a0.size : Int)) = true := decide_eq_true c7
          obtain rfl := Option.some.inj H
          go_enter Try.func21, Try.ntmps21
          go_wp2
          go_ret
          exact ⟨by first | rfl | (simp; done) | (simp [*]; done), by repeat (first | exact Drawn0.refl _ | apply Drawn0.step)⟩
        · rw [if_neg c7] at H
          exact absurd H (by simp)
      · rw [if_neg c6] at H
        exact absurd H (by simp)
    · rw [if_neg c5] at H
      exact absurd H (by simp)
  · rw [if_neg c4] at H
    have c4b0 : decide ((a2.size : Int) ≤ (wrap64 ((a0.size : Int) - a1))) = false := decide_eq_false c4
    clear c4
    obtain rfl := Option.some.inj H
    go_enter Try.func21, Try.ntmps21
    go_wp2
    go_ret
    exact ⟨by first | rfl | (simp; done) | (simp [*]; done), by repeat (first | exact Drawn0.refl _ | apply Drawn0.step)⟩
end Go.Proofs.Ytjdgjifacdnkgaa.X
end
section
namespace Go.Proofs.Ytjdgjifacdnkgaa.X
open Go.RowKit Go.Proofs.YtjdgjifacdnkgaaW.PrintWords Go.Proofs.YtjdgjifacdnkgaaW.PrintLast Go.Proofs.YtjdgjifacdnkgaaW.PrintMore
attribute [local go_sem] max2_int min2_int max_two min_two max_three min_three max_four min_four
set_option linter.unusedVariables false
set_option linter.unusedSimpArgs false
mutual
def sealringref06_Next.j0 : Nat → ByteArray → Int → Bool → Option (Int × Int × Int × Int × ByteArray × Int)
  | 0, _, _, _ => none
  | k + 1, x0, x1, x21 => if x21 = true then (some (0, 0, 0, 0, (⟨#[]⟩ : ByteArray), 1)) else ((sealringref06_blanks.f k x0 x1).bind fun t164 => (if t164 = (x0.size : Int) then (some (12, t164, t164, 0, (⟨#[]⟩ : ByteArray), 0)) else (sealringref06_Next.l0 k x0 t164 (([(⟨#[123]⟩ : ByteArray), (⟨#[125]⟩ : ByteArray), (⟨#[91]⟩ : ByteArray), (⟨#[93]⟩ : ByteArray), (⟨#[44]⟩ : ByteArray), (⟨#[58]⟩ : ByteArray), (⟨#[116, 114, 117, 101]⟩ : ByteArray), (⟨#[102, 97, 108, 115, 101]⟩ : ByteArray), (⟨#[110, 117, 108, 108]⟩ : ByteArray)] : List ByteArray)) 0)))
def sealringref06_Next.l0 : Nat → ByteArray → Int → List ByteArray → Int → Option (Int × Int × Int × Int × ByteArray × Int)
  | 0, _, _, _, _ => none
  | k + 1, x0, x1, x6, x7 => if x7 < (x6.length : Int) then (if 0 ≤ x7 then ((sealringref06_word.f x0 x1 (rdOf ByteArray.empty x6 x7)).bind fun t169 => (if t169 = true then (some (wrap64 (x7 + 1), x1, wrap64 (x1 + ((rdOf ByteArray.empty x6 x7).size : Int)), 0, (⟨#[]⟩ : ByteArray), 0)) else (sealringref06_Next.l0 k x0 x1 x6 (wrap64 (x7 + 1))))) else (none)) else (if 0 ≤ x1 then (if x1 < (x0.size : Int) then (if (bt x0 x1) = 34 then ((sealringref04_Unquote.f k x0 x1).bind fun bt171 => (if bt171.2.2 = 0 then (some (10, x1, bt171.2.1, 0, bt171.1, 0)) else (some (0, x1, 0, 0, (⟨#[]⟩ : ByteArray), bt171.2.2)))) else (if (bt x0 x1) = 45 then (sealringref06_Next.j2 k x0 x1 true) else (if (bt x0 x1) ≥ 48 then (sealringref06_Next.j2 k x0 x1 (decide ((bt x0 x1) ≤ 57))) else (sealringref06_Next.j2 k x0 x1 false)))) else (none)) else (none))
def sealringref06_Next.j2 : Nat → ByteArray → Int → Bool → Option (Int × Int × Int × Int × ByteArray × Int)
  | 0, _, _, _ => none
  | k + 1, x0, x1, x93 => if x93 = true then ((sealringref05_Scan.f k x0 x1).bind fun bt174 => (if bt174.2.2 = 0 then (some (11, x1, bt174.2.1, bt174.1, (⟨#[]⟩ : ByteArray), 0)) else (some (0, x1, 0, 0, (⟨#[]⟩ : ByteArray), bt174.2.2)))) else (some (0, x1, 0, 0, (⟨#[]⟩ : ByteArray), 6))
end
def sealringref06_Next.f (k : Nat) (a0 : ByteArray) (a1 : Int) : Option (Int × Int × Int × Int × ByteArray × Int) := if a1 < 0 then (sealringref06_Next.j0 k a0 a1 true) else (sealringref06_Next.j0 k a0 a1 (decide (a1 > (a0.size : Int))))
theorem sealringref06_Next.mono_l : ∀ k, (∀ y0 y1 y2, LeO (sealringref06_Next.j0 k y0 y1 y2) (sealringref06_Next.j0 (k + 1) y0 y1 y2)) ∧ (∀ y0 y1 y2 y3, LeO (sealringref06_Next.l0 k y0 y1 y2 y3) (sealringref06_Next.l0 (k + 1) y0 y1 y2 y3)) ∧ (∀ y0 y1 y2, LeO (sealringref06_Next.j2 k y0 y1 y2) (sealringref06_Next.j2 (k + 1) y0 y1 y2))
  | 0 => ⟨fun _ _ _ r h => by simp [sealringref06_Next.j0] at h, fun _ _ _ _ r h => by simp [sealringref06_Next.l0] at h, fun _ _ _ r h => by simp [sealringref06_Next.j2] at h⟩
  | k + 1 => by
    obtain ⟨ih0, ih1, ih2⟩ := sealringref06_Next.mono_l k
    refine ⟨?_, ?_, ?_⟩
    · intro y0 y1 y2
      unfold sealringref06_Next.j0
      repeat' first
      | (with_reducible exact ih0 _ _ _)
      | (with_reducible exact ih1 _ _ _ _)
      | (with_reducible exact ih2 _ _ _)
      | (with_reducible exact sealringref04_Unquote.mono _ _ _)
      | (with_reducible exact sealringref05_Scan.mono _ _ _)
      | (with_reducible exact sealringref06_blanks.mono _ _ _)
      | (with_reducible exact LeO.refl _)
      | (with_reducible exact LeO.none _)
      | (with_reducible refine LeO.ite ?_ ?_)
      | (with_reducible refine LeO.bind ?_ (fun _ => ?_))
      | exact ih0 _ _ _
      | exact ih1 _ _ _ _
      | exact ih2 _ _ _
      | exact sealringref04_Unquote.mono _ _ _
      | exact sealringref05_Scan.mono _ _ _
      | exact sealringref06_blanks.mono _ _ _
      | exact LeO.none _
      | refine LeO.ite ?_ ?_
      | refine LeO.bind ?_ (fun _ => ?_)
    · intro y0 y1 y2 y3
      unfold sealringref06_Next.l0
      repeat' first
      | (with_reducible exact ih0 _ _ _)
      | (with_reducible exact ih1 _ _ _ _)
      | (with_reducible exact ih2 _ _ _)
      | (with_reducible exact sealringref04_Unquote.mono _ _ _)
      | (with_reducible exact sealringref05_Scan.mono _ _ _)
      | (with_reducible exact sealringref06_blanks.mono _ _ _)
      | (with_reducible exact LeO.refl _)
      | (with_reducible exact LeO.none _)
      | (with_reducible refine LeO.ite ?_ ?_)
      | (with_reducible refine LeO.bind ?_ (fun _ => ?_))
      | exact ih0 _ _ _
      | exact ih1 _ _ _ _
      | exact ih2 _ _ _
      | exact sealringref04_Unquote.mono _ _ _
      | exact sealringref05_Scan.mono _ _ _
      | exact sealringref06_blanks.mono _ _ _
      | exact LeO.none _
      | refine LeO.ite ?_ ?_
      | refine LeO.bind ?_ (fun _ => ?_)
    · intro y0 y1 y2
      unfold sealringref06_Next.j2
      repeat' first
      | (with_reducible exact ih0 _ _ _)
      | (with_reducible exact ih1 _ _ _ _)
      | (with_reducible exact ih2 _ _ _)
      | (with_reducible exact sealringref04_Unquote.mono _ _ _)
      | (with_reducible exact sealringref05_Scan.mono _ _ _)
      | (with_reducible exact sealringref06_blanks.mono _ _ _)
      | (with_reducible exact LeO.refl _)
      | (with_reducible exact LeO.none _)
      | (with_reducible refine LeO.ite ?_ ?_)
      | (with_reducible refine LeO.bind ?_ (fun _ => ?_))
      | exact ih0 _ _ _
      | exact ih1 _ _ _ _
      | exact ih2 _ _ _
      | exact sealringref04_Unquote.mono _ _ _
      | exact sealringref05_Scan.mono _ _ _
      | exact sealringref06_blanks.mono _ _ _
      | exact LeO.none _
      | refine LeO.ite ?_ ?_
      | refine LeO.bind ?_ (fun _ => ?_)
theorem sealringref06_Next.mono : ∀ a0 a1 k, LeO (sealringref06_Next.f k a0 a1) (sealringref06_Next.f (k + 1) a0 a1) := by
  intro a0 a1 k
  obtain ⟨ih0, ih1, ih2⟩ := sealringref06_Next.mono_l k
  unfold sealringref06_Next.f
  repeat' first
      | (with_reducible exact ih0 _ _ _)
      | (with_reducible exact ih1 _ _ _ _)
      | (with_reducible exact ih2 _ _ _)
      | (with_reducible exact sealringref04_Unquote.mono _ _ _)
      | (with_reducible exact sealringref05_Scan.mono _ _ _)
      | (with_reducible exact sealringref06_blanks.mono _ _ _)
      | (with_reducible exact LeO.refl _)
      | (with_reducible exact LeO.none _)
      | (with_reducible refine LeO.ite ?_ ?_)
      | (with_reducible refine LeO.bind ?_ (fun _ => ?_))
      | exact ih0 _ _ _
      | exact ih1 _ _ _ _
      | exact ih2 _ _ _
      | exact sealringref04_Unquote.mono _ _ _
      | exact sealringref05_Scan.mono _ _ _
      | exact sealringref06_blanks.mono _ _ _
      | exact LeO.none _
      | refine LeO.ite ?_ ?_
      | refine LeO.bind ?_ (fun _ => ?_)
set_option maxHeartbeats 8000000 in
set_option maxRecDepth 100000 in
theorem sealringref06_Next.calls (k : Nat) (a0 : ByteArray) (a1 : Int) (r1 : Int) (r2 : Int) (r3 : Int) (r4 : Int) (r5 : ByteArray) (r6 : Int) (w : World) (h : sealringref06_Next.f k a0 a1 = some (r1, r2, r3, r4, r5, r6)) :
    Calls Try.prog 8 #[.string a0, .int .i64 a1] w fun e w' => e = .returned (.tuple #[.agg #[.int .i64 r1, .int .i64 r2, .int .i64 r3, .int .i64 r4, .string r5], .int .i64 r6]) ∧ Below w.heap.size w w' := by
  have hu24 := Try.underlying24
  have HB := Aside0.mk (Below.refl w.heap.size w)
  have H : (if a1 < 0 then (sealringref06_Next.j0 k a0 a1 true) else (sealringref06_Next.j0 k a0 a1 (decide (a1 > (a0.size : Int))))) = some (r1, r2, r3, r4, r5, r6) := h
  clear h
  have HC3 := Aside0.mk H
  clear H
  go_enter Try.func8, Try.ntmps8
  go_upto_region 1 with (first | ((with_reducible refine gate_dst (N := 4) rfl ?_); (try (refine gate_guard (by rfl) ?_; dsimp only)); refine box_event ?hg (N := 4) ?hd (cs := #[.int .i64 0, .int .i64 0, .int .i64 0, .int .i64 0, .string (⟨#[]⟩ : ByteArray)]) (t := 24) ?hr ?_; (case hd => rfl); (case hg => rfl); (case hr => first | (go_simp; done) | (go_simp; rfl)); intro gb163 hg w4 hbox hb; have n0_ := Aside0.mk (below_step (by repeat (first | (with_reducible first | exact HB.out | apply below_alloc | apply pw_below_drewN | apply below_drew1) | exact HB.out)) hb); have n1_ := Aside0.mk (hbox); have n2_ := Aside0.mk ((by rw [hg]; exact (below_size (by repeat (first | (with_reducible first | exact HB.out | apply below_alloc | apply pw_below_drewN | apply below_drew1) | exact HB.out))) : w.heap.size ≤ gb163)); have n3_ := Aside0.mk ((by rw [hg]; exact (below_size (by repeat (first | (with_reducible first | exact HB.out | apply below_alloc | apply pw_below_drewN | apply below_drew1) | exact HB.out))) : w.heap.size ≤ gb163)); clear HB; have HB := n0_; have BK163 := n1_; have GW163 := n2_; have GE163 := n3_; clear n0_ n1_ n2_ n3_; clear hb hbox hg))
  (try simp only [Act.put, List.setIfInBounds_toArray, List.set_cons_zero, List.set_cons_succ])
  go_cut [21] (fun v21 wc => ∃ (kq : Nat) (x21_2 : Bool), v21 = .bool x21_2 ∧ Aside0 (sealringref06_Next.j0 kq a0 a1 x21_2 = some (r1, r2, r3, r4, r5, r6)) ∧ Aside0 (kq ≤ k) ∧ Aside0 (wc.heap[gb163]? = some (.cells #[.int .i64 0, .int .i64 0, .int .i64 0, .int .i64 0, .string (⟨#[]⟩ : ByteArray)] 24 (0, 0))) ∧ Aside0 (Below w.heap.size w wc))
  case first =>
    have H := HC3.out
    clear HC3
    by_cases c5 : a1 < 0
    · rw [if_pos c5] at H
      have c5b0 : decide (a1 < 0) = true := decide_eq_true c5
      clear c5
      (first | rw [c5b0] | (simp only [i64_w, i32_w]; rw [c5b0]) | skip)
      have H' := Aside0.mk H
      clear H
      go_wp2
      go_meet
      case rel => exact ⟨_, (true), (by first | rfl | (simp; done) | (simp [*]; done) | (simp [wrap64]; done)), (by first | with_reducible exact H' | exact H' | (subst_vars; exact H')), ⟨by first | omega | exact Nat.le_refl _⟩, ⟨by (with_reducible repeat (first | refine blk_drewN ?_ _ | refine blk_drew ?_ | refine blk_alloc ?_ _)); exact BK163.out⟩, ⟨by repeat (first | (with_reducible first | exact HB.out | apply below_alloc | apply pw_below_drewN | apply below_drew1 | refine below_set ?_ GE163.out) | exact HB.out)⟩⟩
    · rw [if_neg c5] at H
      have c5b0 : decide (a1 < 0) = false := decide_eq_false c5
      clear c5
      (first | rw [c5b0] | (simp only [i64_w, i32_w]; rw [c5b0]) | skip)
      have H' := Aside0.mk H
      clear H
      go_wp2
      go_meet
      case rel => exact ⟨_, (decide (a1 > (a0.size : Int))), (by first | rfl | (simp; done) | (simp [*]; done) | (simp [wrap64]; done)), (by first | with_reducible exact H' | exact H' | (subst_vars; exact H')), ⟨by first | omega | exact Nat.le_refl _⟩, ⟨by (with_reducible repeat (first | refine blk_drewN ?_ _ | refine blk_drew ?_ | refine blk_alloc ?_ _)); exact BK163.out⟩, ⟨by repeat (first | (with_reducible first | exact HB.out | apply below_alloc | apply pw_below_drewN | apply below_drew1 | refine below_set ?_ GE163.out) | exact HB.out)⟩⟩
  case rest =>
    clear HC3
    try clear p2
    try clear c5
    try clear c5b0
    obtain ⟨kq, x21_2, rfl, HA, HJ2, BK163, HB⟩ := hcut
    cases kq with
    | zero => exact absurd HA.out (by simp [sealringref06_Next.j0])
    | succ kj2 =>
      have H := HA.out
      clear HA
      simp only [sealringref06_Next.j0] at H
      by_cases c6 : x21_2 = true
      · subst c6
        have H1 : (some (0, 0, 0, 0, (⟨#[]⟩ : ByteArray), 1)) = some (r1, r2, r3, r4, r5, r6) := by rw [if_pos rfl] at H; exact H
        clear H
        have H := H1
        clear H1
        simp only [Option.some.injEq, Prod.mk.injEq] at H
        obtain ⟨rfl, rfl, rfl, rfl, rfl, rfl⟩ := H
        have hcz7_0 : wc.cell? ⟨gb163, 0, none⟩ = some (.int .i64 0) := (blk_cell BK163.out 0).trans rfl
        have hcz7_1 : wc.cell? ⟨gb163, 1, none⟩ = some (.int .i64 0) := (blk_cell BK163.out 1).trans rfl
        have hcz7_2 : wc.cell? ⟨gb163, 2, none⟩ = some (.int .i64 0) := (blk_cell BK163.out 2).trans rfl
        have hcz7_3 : wc.cell? ⟨gb163, 3, none⟩ = some (.int .i64 0) := (blk_cell BK163.out 3).trans rfl
        have hcz7_4 : wc.cell? ⟨gb163, 4, none⟩ = some (.string (⟨#[]⟩ : ByteArray)) := (blk_cell BK163.out 4).trans rfl
        have hfz7_0 := blk_frozen BK163.out 0
        have hfz7_1 := blk_frozen BK163.out 1
        have hfz7_2 := blk_frozen BK163.out 2
        have hfz7_3 := blk_frozen BK163.out 3
        have hfz7_4 := blk_frozen BK163.out 4
        go_wp2
        refine bodyPost_ret (results_ct rfl _ _ gb163 24 #[.int .i64 0, .int .i64 0, .int .i64 0, .int .i64 0, .string (⟨#[]⟩ : ByteArray)] (0, 0) _ rfl (by (with_reducible repeat (first | refine blk_drewN ?_ _ | refine blk_drew ?_ | refine blk_alloc ?_ _)); refine blk_put (cs := #[.int .i64 0, .int .i64 0, .int .i64 0, .int .i64 0, .string (⟨#[]⟩ : ByteArray)]) ?_ 4 _ rfl; (with_reducible repeat (first | refine blk_drewN ?_ _ | refine blk_drew ?_ | refine blk_alloc ?_ _)); refine blk_put (cs := #[.int .i64 0, .int .i64 0, .int .i64 0, .int .i64 0, .string (⟨#[]⟩ : ByteArray)]) ?_ 3 _ rfl; (with_reducible repeat (first | refine blk_drewN ?_ _ | refine blk_drew ?_ | refine blk_alloc ?_ _)); refine blk_put (cs := #[.int .i64 0, .int .i64 0, .int .i64 0, .int .i64 0, .string (⟨#[]⟩ : ByteArray)]) ?_ 2 _ rfl; (with_reducible repeat (first | refine blk_drewN ?_ _ | refine blk_drew ?_ | refine blk_alloc ?_ _)); refine blk_put (cs := #[.int .i64 0, .int .i64 0, .int .i64 0, .int .i64 0, .string (⟨#[]⟩ : ByteArray)]) ?_ 1 _ rfl; (with_reducible repeat (first | refine blk_drewN ?_ _ | refine blk_drew ?_ | refine blk_alloc ?_ _)); refine blk_put (cs := #[.int .i64 0, .int .i64 0, .int .i64 0, .int .i64 0, .string (⟨#[]⟩ : ByteArray)]) ?_ 0 _ rfl; (with_reducible repeat (first | refine blk_drewN ?_ _ | refine blk_drew ?_ | refine blk_alloc ?_ _)); exact BK163.out) Try.underlying24 rfl (by kernel_rfl)) rfl ?_
        exact ⟨by first | rfl | (simp [errW_none, errW_some] <;> rfl) | (simp [*, errW_none, errW_some] <;> rfl), by repeat (first | (with_reducible first | exact HB.out | apply below_alloc | apply pw_below_drewN | apply below_drew1 | refine below_set ?_ GE163.out) | exact HB.out)⟩
      · replace c6 := Bool.eq_false_iff.mpr c6
        subst c6
        have H1 : ((sealringref06_blanks.f kj2 a0 a1).bind fun t164 => (if t164 = (a0.size : Int) then (some (12, t164, t164, 0, (⟨#[]⟩ : ByteArray), 0)) else (sealringref06_Next.l0 kj2 a0 t164 (([(⟨#[123]⟩ : ByteArray), (⟨#[125]⟩ : ByteArray), (⟨#[91]⟩ : ByteArray), (⟨#[93]⟩ : ByteArray), (⟨#[44]⟩ : ByteArray), (⟨#[58]⟩ : ByteArray), (⟨#[116, 114, 117, 101]⟩ : ByteArray), (⟨#[102, 97, 108, 115, 101]⟩ : ByteArray), (⟨#[110, 117, 108, 108]⟩ : ByteArray)] : List ByteArray)) 0))) = some (r1, r2, r3, r4, r5, r6) := by rw [if_neg (show ¬ (false = true) by decide)] at H; exact H
        clear H
        have H := H1
        clear H1
        replace H := Option.bind_eq_some_iff.mp H
        obtain ⟨t164, A80, H⟩ := H
        replace H : (if t164 = (a0.size : Int) then (some (12, t164, t164, 0, (⟨#[]⟩ : ByteArray), 0)) else (sealringref06_Next.l0 kj2 a0 t164 (([(⟨#[123]⟩ : ByteArray), (⟨#[125]⟩ : ByteArray), (⟨#[91]⟩ : ByteArray), (⟨#[93]⟩ : ByteArray), (⟨#[44]⟩ : ByteArray), (⟨#[58]⟩ : ByteArray), (⟨#[116, 114, 117, 101]⟩ : ByteArray), (⟨#[102, 97, 108, 115, 101]⟩ : ByteArray), (⟨#[110, 117, 108, 108]⟩ : ByteArray)] : List ByteArray)) 0)) = some (r1, r2, r3, r4, r5, r6) := H
        have A8 := Aside0.mk A80
        clear A80
        by_cases c9 : t164 = (a0.size : Int)
        · rw [if_pos c9] at H
          have c9b0 : (t164 == (a0.size : Int)) = true := beq_iff_eq.mpr c9
          have c9b1 : (t164 != (a0.size : Int)) = false := bne_eq_false_iff_eq.mpr c9
          clear c9
          simp only [Option.some.injEq, Prod.mk.injEq] at H
          obtain ⟨rfl, rfl, rfl, rfl, rfl, rfl⟩ := H
          go_wp2_with (first | ((with_reducible refine gate_callee (f := 20) rfl ?_); refine goesL_ (some 25) rfl rfl Try.func20 (by kernel_rfl) rfl #[.string a0, .int .i64 a1] rfl (by (try simp only [List.map_toArray, List.map_cons, List.map_nil]); first | done | rfl | (simp only [List.length_drop, List.length_take]; rfl)) ?_; (with_reducible refine (sealringref06_blanks.calls kj2 a0 a1 t164 _ A8.out).mono ?_); rintro e w' ⟨rfl, ⟨nd, rfl⟩⟩; refine ⟨_, rfl, ?_⟩; (try (rw [drewN_self wc]; generalize hq_ : World.drewN wc _ = wc; have n0_ : Aside0 (wc.heap[gb163]? = some (.cells #[.int .i64 0, .int .i64 0, .int .i64 0, .int .i64 0, .string (⟨#[]⟩ : ByteArray)] 24 (0, 0))) := ⟨by rw [← hq_]; exact (by (with_reducible repeat (first | refine blk_drewN ?_ _ | refine blk_drew ?_ | refine blk_alloc ?_ _)); exact BK163.out)⟩; have n1_ : Aside0 (Below w.heap.size w wc) := ⟨by rw [← hq_]; exact (by repeat (first | (with_reducible first | exact HB.out | apply below_alloc | apply pw_below_drewN | apply below_drew1 | refine below_set ?_ GE163.out) | exact HB.out))⟩; clear BK163 HB hq_; have BK163 := n0_; have HB := n1_; clear n0_ n1_)); have hcz10_0 : wc.cell? ⟨gb163, 0, none⟩ = some (.int .i64 0) := (blk_cell BK163.out 0).trans rfl; have hcz10_1 : wc.cell? ⟨gb163, 1, none⟩ = some (.int .i64 0) := (blk_cell BK163.out 1).trans rfl; have hcz10_2 : wc.cell? ⟨gb163, 2, none⟩ = some (.int .i64 0) := (blk_cell BK163.out 2).trans rfl; have hcz10_3 : wc.cell? ⟨gb163, 3, none⟩ = some (.int .i64 0) := (blk_cell BK163.out 3).trans rfl; have hcz10_4 : wc.cell? ⟨gb163, 4, none⟩ = some (.string (⟨#[]⟩ : ByteArray)) := (blk_cell BK163.out 4).trans rfl; have hfz10_0 := blk_frozen BK163.out 0; have hfz10_1 := blk_frozen BK163.out 1; have hfz10_2 := blk_frozen BK163.out 2; have hfz10_3 := blk_frozen BK163.out 3; have hfz10_4 := blk_frozen BK163.out 4))
          refine bodyPost_ret (results_ct rfl _ _ gb163 24 #[.int .i64 12, .int .i64 t164, .int .i64 t164, .int .i64 0, .string (⟨#[]⟩ : ByteArray)] (0, 0) _ rfl (by (with_reducible repeat (first | refine blk_drewN ?_ _ | refine blk_drew ?_ | refine blk_alloc ?_ _)); refine blk_put (cs := #[.int .i64 12, .int .i64 t164, .int .i64 t164, .int .i64 0, .string (⟨#[]⟩ : ByteArray)]) ?_ 4 _ rfl; (with_reducible repeat (first | refine blk_drewN ?_ _ | refine blk_drew ?_ | refine blk_alloc ?_ _)); refine blk_put (cs := #[.int .i64 12, .int .i64 t164, .int .i64 t164, .int .i64 0, .string (⟨#[]⟩ : ByteArray)]) ?_ 3 _ rfl; (with_reducible repeat (first | refine blk_drewN ?_ _ | refine blk_drew ?_ | refine blk_alloc ?_ _)); refine blk_put (cs := #[.int .i64 12, .int .i64 t164, .int .i64 0, .int .i64 0, .string (⟨#[]⟩ : ByteArray)]) ?_ 2 _ rfl; (with_reducible repeat (first | refine blk_drewN ?_ _ | refine blk_drew ?_ | refine blk_alloc ?_ _)); refine blk_put (cs := #[.int .i64 12, .int .i64 0, .int .i64 0, .int .i64 0, .string (⟨#[]⟩ : ByteArray)]) ?_ 1 _ rfl; (with_reducible repeat (first | refine blk_drewN ?_ _ | refine blk_drew ?_ | refine blk_alloc ?_ _)); refine blk_put (cs := #[.int .i64 0, .int .i64 0, .int .i64 0, .int .i64 0, .string (⟨#[]⟩ : ByteArray)]) ?_ 0 _ rfl; (with_reducible repeat (first | refine blk_drewN ?_ _ | refine blk_drew ?_ | refine blk_alloc ?_ _)); exact BK163.out) Try.underlying24 rfl (by kernel_rfl)) rfl ?_
          exact ⟨by first | rfl | (simp [errW_none, errW_some] <;> rfl) | (simp [*, errW_none, errW_some] <;> rfl), by repeat (first | (with_reducible first | exact HB.out | apply below_alloc | apply pw_below_drewN | apply below_drew1 | refine below_set ?_ GE163.out) | exact HB.out)⟩
        · rw [if_neg c9] at H
          have c9b0 : (t164 == (a0.size : Int)) = false := beq_eq_false_iff_ne.mpr c9
          have c9b1 : (t164 != (a0.size : Int)) = true := bne_iff_ne.mpr c9
          obtain ⟨y165, hy165⟩ : ∃ y_ : List ByteArray, y_ = (([(⟨#[123]⟩ : ByteArray), (⟨#[125]⟩ : ByteArray), (⟨#[91]⟩ : ByteArray), (⟨#[93]⟩ : ByteArray), (⟨#[44]⟩ : ByteArray), (⟨#[58]⟩ : ByteArray), (⟨#[116, 114, 117, 101]⟩ : ByteArray), (⟨#[102, 97, 108, 115, 101]⟩ : ByteArray), (⟨#[110, 117, 108, 108]⟩ : ByteArray)] : List ByteArray)) := ⟨_, rfl⟩
          replace H : (sealringref06_Next.l0 kj2 a0 t164 y165 0) = some (r1, r2, r3, r4, r5, r6) := by first | (rw [hy165]; with_reducible exact H) | (have H2_ := (Option.bind_some _ _).symm.trans H; rw [hy165]; with_reducible exact H2_) | (have H2_ := (Option.bind_some _ _).symm.trans H; with_reducible exact H2_) | with_reducible exact H | (rw [hy165]; exact H) | exact H
          have Ny165 := Aside0.mk hy165
          clear hy165
          have H' := Aside0.mk H
          clear H
          go_wp2_with (first | ((with_reducible refine gate_callee (f := 20) rfl ?_); refine goesL_ (some 25) rfl rfl Try.func20 (by kernel_rfl) rfl #[.string a0, .int .i64 a1] rfl (by (try simp only [List.map_toArray, List.map_cons, List.map_nil]); first | done | rfl | (simp only [List.length_drop, List.length_take]; rfl)) ?_; (with_reducible refine (sealringref06_blanks.calls kj2 a0 a1 t164 _ A8.out).mono ?_); rintro e w' ⟨rfl, ⟨nd, rfl⟩⟩; refine ⟨_, rfl, ?_⟩) | ((with_reducible refine gate_dst (N := 33) rfl ?_); (try (refine gate_guard (by rfl) ?_; dsimp only)); refine Kd.R_lit Kd.string _ 9 ?hg (N := 33) ?hd (xs := ([(⟨#[123]⟩ : ByteArray), (⟨#[125]⟩ : ByteArray), (⟨#[91]⟩ : ByteArray), (⟨#[93]⟩ : ByteArray), (⟨#[44]⟩ : ByteArray), (⟨#[58]⟩ : ByteArray), (⟨#[116, 114, 117, 101]⟩ : ByteArray), (⟨#[102, 97, 108, 115, 101]⟩ : ByteArray), (⟨#[110, 117, 108, 108]⟩ : ByteArray)] : List ByteArray)) (inner := [.string (⟨#[123]⟩ : ByteArray), .string (⟨#[125]⟩ : ByteArray), .string (⟨#[91]⟩ : ByteArray), .string (⟨#[93]⟩ : ByteArray), .string (⟨#[44]⟩ : ByteArray), .string (⟨#[58]⟩ : ByteArray), .string (⟨#[116, 114, 117, 101]⟩ : ByteArray), .string (⟨#[102, 97, 108, 115, 101]⟩ : ByteArray), .string (⟨#[110, 117, 108, 108]⟩ : ByteArray)]) (ok := fun _ => True) (okp := fun _ => True) ?hr ?hp (fun _ hk => hk) trivial (Below.refl _ _) (Nat.le_refl _) (by simp) ?_; (case hd => rfl); (case hg => rfl); (case hr => first | (go_simp; done) | (go_simp; rfl)); (case hp => exact (Reps.one (show Kd.M Kd.string _ _ _ (⟨#[123]⟩ : ByteArray) [.string (⟨#[123]⟩ : ByteArray)] from rfl) (Reps.one (show Kd.M Kd.string _ _ _ (⟨#[125]⟩ : ByteArray) [.string (⟨#[125]⟩ : ByteArray)] from rfl) (Reps.one (show Kd.M Kd.string _ _ _ (⟨#[91]⟩ : ByteArray) [.string (⟨#[91]⟩ : ByteArray)] from rfl) (Reps.one (show Kd.M Kd.string _ _ _ (⟨#[93]⟩ : ByteArray) [.string (⟨#[93]⟩ : ByteArray)] from rfl) (Reps.one (show Kd.M Kd.string _ _ _ (⟨#[44]⟩ : ByteArray) [.string (⟨#[44]⟩ : ByteArray)] from rfl) (Reps.one (show Kd.M Kd.string _ _ _ (⟨#[58]⟩ : ByteArray) [.string (⟨#[58]⟩ : ByteArray)] from rfl) (Reps.one (show Kd.M Kd.string _ _ _ (⟨#[116, 114, 117, 101]⟩ : ByteArray) [.string (⟨#[116, 114, 117, 101]⟩ : ByteArray)] from rfl) (Reps.one (show Kd.M Kd.string _ _ _ (⟨#[102, 97, 108, 115, 101]⟩ : ByteArray) [.string (⟨#[102, 97, 108, 115, 101]⟩ : ByteArray)] from rfl) (Reps.one (show Kd.M Kd.string _ _ _ (⟨#[110, 117, 108, 108]⟩ : ByteArray) [.string (⟨#[110, 117, 108, 108]⟩ : ByteArray)] from rfl) (Reps.none _ _))))))))))); intro v166 w11 ho12 hb hg_ hnew_; clear hg_ hnew_; (first | rw [← Ny165.out] at ho12 | (simp only [Int.reduceToNat] at ho12; rw [← Ny165.out] at ho12)); have n0_ := Aside0.mk (Kd.R_lower ho12 (below_size (by repeat (first | (with_reducible first | exact HB.out | apply below_alloc | apply pw_below_drewN | apply below_drew1 | refine below_set ?_ GE163.out) | exact HB.out)))); have n1_ := Aside0.mk (blk_below (g := gb163) (o := .cells #[.int .i64 0, .int .i64 0, .int .i64 0, .int .i64 0, .string (⟨#[]⟩ : ByteArray)] 24 (0, 0)) (by (with_reducible repeat (first | refine blk_drewN ?_ _ | refine blk_drew ?_ | refine blk_alloc ?_ _)); exact BK163.out) hb); have n2_ := Aside0.mk (below_step (by repeat (first | (with_reducible first | exact HB.out | apply below_alloc | apply pw_below_drewN | apply below_drew1 | refine below_set ?_ GE163.out) | exact HB.out)) hb); clear BK163; clear HB; have HO167 := n0_; have BK163 := n1_; have HB := n2_; clear n0_ n1_ n2_; clear hb ho12))
          (try simp only [Go.IntKind.wrap_u8])
          go_loopg [7] kj2 (fun kq v7 w' => ∃ (x7_2 : Int) (x164000_2 : Int) (x164001_2 : Int) (x164002_2 : Int) (x164003_2 : Int) (x164004_2 : ByteArray), v7 = .int .i64 x7_2 ∧ Aside0 (sealringref06_Next.l0 kq a0 t164 y165 x7_2 = some (r1, r2, r3, r4, r5, r6)) ∧ Aside0 (kq ≤ kj2) ∧ Aside0 (Kd.R Kd.string 9 w' w.heap.size (fun _ => True) v166 y165) ∧ Aside0 (w'.heap[gb163]? = some (.cells #[.int .i64 x164000_2, .int .i64 x164001_2, .int .i64 x164002_2, .int .i64 x164003_2, .string x164004_2] 24 (0, 0))) ∧ Aside0 (Below w.heap.size w w'))
          case atStart => exact ⟨(0), (0), (0), (0), (0), ((⟨#[]⟩ : ByteArray)), (by first | rfl | (simp; done) | (simp [*]; done) | (simp [wrap64]; done)), (by first | with_reducible exact H' | exact H' | (subst_vars; exact H')), ⟨Nat.le_refl _⟩, ⟨by (with_reducible repeat (first | apply Kd.R_alloc | apply Kd.R_drewN | apply Kd.R_drew)); exact HO167.out⟩, ⟨by (with_reducible repeat (first | refine blk_drewN ?_ _ | refine blk_drew ?_ | refine blk_alloc ?_ _)); exact BK163.out⟩, ⟨by repeat (first | (with_reducible first | exact HB.out | apply below_alloc | apply pw_below_drewN | apply below_drew1 | refine below_set ?_ GE163.out) | exact HB.out)⟩⟩
          case round =>
            clear H'
            try clear c2
            try clear p2
            try clear c5
            try clear c5b0
            try clear c6
            try clear c8
            try clear c9
            try clear c9b0
            try clear c9b1
            try clear hcz10_0
            try clear hcz10_1
            try clear hcz10_2
            try clear hcz10_3
            try clear hcz10_4
            try clear hcz7_0
            try clear hcz7_1
            try clear hcz7_2
            try clear hcz7_3
            try clear hcz7_4
            try clear hfz10_0
            try clear hfz10_1
            try clear hfz10_2
            try clear hfz10_3
            try clear hfz10_4
            try clear hfz7_0
            try clear hfz7_1
            try clear hfz7_2
            try clear hfz7_3
            try clear hfz7_4
            try clear p2
            obtain ⟨x7_2, x164000_2, x164001_2, x164002_2, x164003_2, x164004_2, rfl, HA, HK2, HO_6, BK163, HB⟩ := hrel
            cases gk with
            | zero => exact absurd HA.out (by simp [sealringref06_Next.l0])
            | succ k2 =>
              have H := HA.out
              clear HA
              simp only [sealringref06_Next.l0] at H
              by_cases c13 : x7_2 < (y165.length : Int)
              · rw [if_pos c13] at H
                have c13b0 : decide (x7_2 < (y165.length : Int)) = true := decide_eq_true c13
                clear c13
                by_cases c14 : 0 ≤ x7_2
                · rw [if_pos c14] at H
                  have c14b0 : decide (0 ≤ x7_2) = true := decide_eq_true c14
                  clear c14
                  replace H := Option.bind_eq_some_iff.mp H
                  obtain ⟨t169, A150, H⟩ := H
                  replace H : (if t169 = true then (some (wrap64 (x7_2 + 1), t164, wrap64 (t164 + ((rdOf ByteArray.empty y165 x7_2).size : Int)), 0, (⟨#[]⟩ : ByteArray), 0)) else (sealringref06_Next.l0 k2 a0 t164 y165 (wrap64 (x7_2 + 1)))) = some (r1, r2, r3, r4, r5, r6) := H
                  have A15 := Aside0.mk A150
                  clear A150
                  by_cases c16 : t169 = true
                  · subst c16
                    have H1 : (some (wrap64 (x7_2 + 1), t164, wrap64 (t164 + ((rdOf ByteArray.empty y165 x7_2).size : Int)), 0, (⟨#[]⟩ : ByteArray), 0)) = some (r1, r2, r3, r4, r5, r6) := by rw [if_pos rfl] at H; exact H
                    clear H
                    have H := H1
                    clear H1
                    simp only [Option.some.injEq, Prod.mk.injEq] at H
                    obtain ⟨rfl, rfl, rfl, rfl, rfl, rfl⟩ := H
                    obtain ⟨Ao17, co17, eo17⟩ := Kd.R_slice HO_6.out
                    subst eo17
                    have p168 : 0 ≤ (x7_2 : Int) := of_decide_eq_true (by first | (with_reducible assumption) | assumption)
                    have q168 : x7_2 < (y165.length : Int) := of_decide_eq_true (by first | (with_reducible assumption) | assumption)
                    obtain ⟨ad168, e168, hx168_0⟩ := Kd.at_string (Kd.R_reads' HO_6.out).2.2 x7_2 p168 q168
                    cases e168
                    replace p168 := eq_true p168
                    replace q168 := eq_true q168
                    go_wp2_with (first | ((with_reducible refine gate_callee (f := 21) rfl ?_); refine goesL_ (some 46) rfl rfl Try.func21 (by kernel_rfl) rfl #[.string a0, .int .i64 t164, .string (rdOf ByteArray.empty y165 x7_2)] rfl (by (try simp only [List.map_toArray, List.map_cons, List.map_nil]); first | done | rfl | (simp only [List.length_drop, List.length_take]; rfl)) ?_; (with_reducible refine (sealringref06_word.calls a0 t164 (rdOf ByteArray.empty y165 x7_2) true _ A15.out).mono ?_); rintro e w' ⟨rfl, ⟨nd, rfl⟩⟩; refine ⟨_, rfl, ?_⟩; (try (rw [drewN_self wr]; generalize hq_ : World.drewN wr _ = wr; have n0_ : Aside0 (Kd.R Kd.string 9 wr w.heap.size (fun _ => True) (.slice (some ad168) y165.length co17) y165) := ⟨by rw [← hq_]; exact (by (with_reducible repeat (first | apply Kd.R_alloc | apply Kd.R_drewN | apply Kd.R_drew)); exact HO_6.out)⟩; have n1_ : Aside0 (wr.heap[gb163]? = some (.cells #[.int .i64 x164000_2, .int .i64 x164001_2, .int .i64 x164002_2, .int .i64 x164003_2, .string x164004_2] 24 (0, 0))) := ⟨by rw [← hq_]; exact (by (with_reducible repeat (first | refine blk_drewN ?_ _ | refine blk_drew ?_ | refine blk_alloc ?_ _)); exact BK163.out)⟩; have n2_ : Aside0 (Below w.heap.size w wr) := ⟨by rw [← hq_]; exact (by repeat (first | (with_reducible first | exact HB.out | apply below_alloc | apply pw_below_drewN | apply below_drew1 | refine below_set ?_ GE163.out) | exact HB.out))⟩; clear HO_6 BK163 HB hq_; have HO_6 := n0_; have BK163 := n1_; have HB := n2_; clear n0_ n1_ n2_)); have p170 : 0 ≤ (x7_2 : Int) := of_decide_eq_true (by first | (with_reducible assumption) | assumption); have q170 : x7_2 < (y165.length : Int) := of_decide_eq_true (by first | (with_reducible assumption) | assumption); obtain ⟨ad170, e170, hx170_0⟩ := Kd.at_string (Kd.R_reads' HO_6.out).2.2 x7_2 p170 q170; obtain rfl : ad168 = ad170 := (by injection e170); replace p170 := eq_true p170; replace q170 := eq_true q170; have hcz18_0 : wr.cell? ⟨gb163, 0, none⟩ = some (.int .i64 x164000_2) := (blk_cell BK163.out 0).trans rfl; have hcz18_1 : wr.cell? ⟨gb163, 1, none⟩ = some (.int .i64 x164001_2) := (blk_cell BK163.out 1).trans rfl; have hcz18_2 : wr.cell? ⟨gb163, 2, none⟩ = some (.int .i64 x164002_2) := (blk_cell BK163.out 2).trans rfl; have hcz18_3 : wr.cell? ⟨gb163, 3, none⟩ = some (.int .i64 x164003_2) := (blk_cell BK163.out 3).trans rfl; have hcz18_4 : wr.cell? ⟨gb163, 4, none⟩ = some (.string x164004_2) := (blk_cell BK163.out 4).trans rfl; have hfz18_0 := blk_frozen BK163.out 0; have hfz18_1 := blk_frozen BK163.out 1; have hfz18_2 := blk_frozen BK163.out 2; have hfz18_3 := blk_frozen BK163.out 3; have hfz18_4 := blk_frozen BK163.out 4))
                    refine bodyPost_ret (results_ct rfl _ _ gb163 24 #[.int .i64 (wrap64 (x7_2 + 1)), .int .i64 t164, .int .i64 (wrap64 (t164 + ((rdOf ByteArray.empty y165 x7_2).size : Int))), .int .i64 0, .string (⟨#[]⟩ : ByteArray)] (0, 0) _ rfl (by (with_reducible repeat (first | refine blk_drewN ?_ _ | refine blk_drew ?_ | refine blk_alloc ?_ _)); refine blk_put (cs := #[.int .i64 (wrap64 (x7_2 + 1)), .int .i64 t164, .int .i64 (wrap64 (t164 + ((rdOf ByteArray.empty y165 x7_2).size : Int))), .int .i64 0, .string x164004_2]) ?_ 4 _ rfl; (with_reducible repeat (first | refine blk_drewN ?_ _ | refine blk_drew ?_ | refine blk_alloc ?_ _)); refine blk_put (cs := #[.int .i64 (wrap64 (x7_2 + 1)), .int .i64 t164, .int .i64 (wrap64 (t164 + ((rdOf ByteArray.empty y165 x7_2).size : Int))), .int .i64 x164003_2, .string x164004_2]) ?_ 3 _ rfl; (with_reducible repeat (first | refine blk_drewN ?_ _ | refine blk_drew ?_ | refine blk_alloc ?_ _)); refine blk_put (cs := #[.int .i64 (wrap64 (x7_2 + 1)), .int .i64 t164, .int .i64 x164002_2, .int .i64 x164003_2, .string x164004_2]) ?_ 2 _ rfl; (with_reducible repeat (first | refine blk_drewN ?_ _ | refine blk_drew ?_ | refine blk_alloc ?_ _)); refine blk_put (cs := #[.int .i64 (wrap64 (x7_2 + 1)), .int .i64 x164001_2, .int .i64 x164002_2, .int .i64 x164003_2, .string x164004_2]) ?_ 1 _ rfl; (with_reducible repeat (first | refine blk_drewN ?_ _ | refine blk_drew ?_ | refine blk_alloc ?_ _)); refine blk_put (cs := #[.int .i64 x164000_2, .int .i64 x164001_2, .int .i64 x164002_2, .int .i64 x164003_2, .string x164004_2]) ?_ 0 _ rfl; (with_reducible repeat (first | refine blk_drewN ?_ _ | refine blk_drew ?_ | refine blk_alloc ?_ _)); exact BK163.out) Try.underlying24 rfl (by kernel_rfl)) rfl ?_
                    exact ⟨by first | rfl | (simp [errW_none, errW_some] <;> rfl) | (simp [*, errW_none, errW_some] <;> rfl), by repeat (first | (with_reducible first | exact HB.out | apply below_alloc | apply pw_below_drewN | apply below_drew1 | refine below_set ?_ GE163.out) | exact HB.out)⟩
                  · replace c16 := Bool.eq_false_iff.mpr c16
                    subst c16
                    have H1 : (sealringref06_Next.l0 k2 a0 t164 y165 (wrap64 (x7_2 + 1))) = some (r1, r2, r3, r4, r5, r6) := by rw [if_neg (show ¬ (false = true) by decide)] at H; exact H
                    clear H
                    have H := H1
                    clear H1
                    have H' := Aside0.mk H
                    clear H
                    obtain ⟨Ao19, co19, eo19⟩ := Kd.R_slice HO_6.out
                    subst eo19
                    have p168 : 0 ≤ (x7_2 : Int) := of_decide_eq_true (by first | (with_reducible assumption) | assumption)
                    have q168 : x7_2 < (y165.length : Int) := of_decide_eq_true (by first | (with_reducible assumption) | assumption)
                    obtain ⟨ad168, e168, hx168_0⟩ := Kd.at_string (Kd.R_reads' HO_6.out).2.2 x7_2 p168 q168
                    cases e168
                    replace p168 := eq_true p168
                    replace q168 := eq_true q168
                    go_wp2_with (first | ((with_reducible refine gate_callee (f := 21) rfl ?_); refine goesL_ (some 46) rfl rfl Try.func21 (by kernel_rfl) rfl #[.string a0, .int .i64 t164, .string (rdOf ByteArray.empty y165 x7_2)] rfl (by (try simp only [List.map_toArray, List.map_cons, List.map_nil]); first | done | rfl | (simp only [List.length_drop, List.length_take]; rfl)) ?_; (with_reducible refine (sealringref06_word.calls a0 t164 (rdOf ByteArray.empty y165 x7_2) false _ A15.out).mono ?_); rintro e w' ⟨rfl, ⟨nd, rfl⟩⟩; refine ⟨_, rfl, ?_⟩))
                    go_roundg k2
                    case measure => have := HJ2.out; have := HK2.out; omega
                    case rel => exact ⟨(wrap64 (x7_2 + 1)), (x164000_2), (x164001_2), (x164002_2), (x164003_2), (x164004_2), (by first | rfl | (simp; done) | (simp [*]; done) | (simp [wrap64]; done)), (by first | with_reducible exact H' | exact H' | (subst_vars; exact H')), ⟨by have := HJ2.out; have := HK2.out; omega⟩, ⟨by (with_reducible repeat (first | apply Kd.R_alloc | apply Kd.R_drewN | apply Kd.R_drew)); exact HO_6.out⟩, ⟨by (with_reducible repeat (first | refine blk_drewN ?_ _ | refine blk_drew ?_ | refine blk_alloc ?_ _)); exact BK163.out⟩, ⟨by repeat (first | (with_reducible first | exact HB.out | apply below_alloc | apply pw_below_drewN | apply below_drew1 | refine below_set ?_ GE163.out) | exact HB.out)⟩⟩
                · rw [if_neg c14] at H
                  exact absurd H (by simp)
              · rw [if_neg c13] at H
                have c13b0 : decide (x7_2 < (y165.length : Int)) = false := decide_eq_false c13
                clear c13
                by_cases c20 : 0 ≤ t164
                · rw [if_pos c20] at H
                  have c20b0 : decide (0 ≤ t164) = true := decide_eq_true c20
                  clear c20
                  by_cases c21 : t164 < (a0.size : Int)
                  · rw [if_pos c21] at H
                    have c21b0 : decide (t164 < (a0.size : Int)) = true := decide_eq_true c21
                    clear c21
                    by_cases c23 : (bt a0 t164) = 34
                    · rw [if_pos c23] at H
                      have c23b0 : ((bt a0 t164) == 34) = true := beq_iff_eq.mpr c23
                      have c23b1 : ((bt a0 t164) != 34) = false := bne_eq_false_iff_eq.mpr c23
                      clear c23
                      replace H := Option.bind_eq_some_iff.mp H
                      obtain ⟨⟨t171, t172, t173⟩, A240, H⟩ := H
                      replace H : (if t173 = 0 then (some (10, t164, t172, 0, t171, 0)) else (some (0, t164, 0, 0, (⟨#[]⟩ : ByteArray), t173))) = some (r1, r2, r3, r4, r5, r6) := H
                      have A24 := Aside0.mk A240
                      clear A240
                      by_cases c25 : t173 = 0
                      · rw [if_pos c25] at H
                        have c25b0 : (t173 == 0) = true := beq_iff_eq.mpr c25
                        have c25b1 : (t173 != 0) = false := bne_eq_false_iff_eq.mpr c25
                        clear c25
                        simp only [Option.some.injEq, Prod.mk.injEq] at H
                        obtain ⟨rfl, rfl, rfl, rfl, rfl, rfl⟩ := H
                        obtain ⟨Ao26, co26, eo26⟩ := Kd.R_slice HO_6.out
                        subst eo26
                        have p22 : 0 ≤ (t164 : Int) := of_decide_eq_true (by first | (with_reducible assumption) | assumption)
                        have q22 : t164 < (a0.size : Int) := of_decide_eq_true (by first | (with_reducible assumption) | assumption)
                        have hx22 := bt_at a0 t164
                        replace p22 := eq_true p22
                        replace q22 := eq_true q22
                        go_wp2_with (first | ((with_reducible refine gate_callee (f := 22) rfl ?_); refine goesL_ (some 65) rfl rfl Try.func22 (by kernel_rfl) rfl #[.string a0, .int .i64 t164] rfl (by (try simp only [List.map_toArray, List.map_cons, List.map_nil]); first | done | rfl | (simp only [List.length_drop, List.length_take]; rfl)) ?_; (with_reducible refine (sealringref04_Unquote.calls k2 a0 t164 t171 t172 t173 _ A24.out).mono ?_); rintro e w27 ⟨rfl, hb⟩; refine ⟨_, rfl, ?_⟩; have n0_ := Aside0.mk (Kd.R_below (by (with_reducible repeat (first | apply Kd.R_alloc | apply Kd.R_drewN | apply Kd.R_drew)); exact HO_6.out) hb); have n1_ := Aside0.mk (blk_below (g := gb163) (o := .cells #[.int .i64 x164000_2, .int .i64 x164001_2, .int .i64 x164002_2, .int .i64 x164003_2, .string x164004_2] 24 (0, 0)) (by (with_reducible repeat (first | refine blk_drewN ?_ _ | refine blk_drew ?_ | refine blk_alloc ?_ _)); exact BK163.out) hb); have n2_ := Aside0.mk (below_step (by repeat (first | (with_reducible first | exact HB.out | apply below_alloc | apply pw_below_drewN | apply below_drew1 | refine below_set ?_ GE163.out) | exact HB.out)) hb); clear HO_6; clear BK163; clear HB; have HO_6 := n0_; have BK163 := n1_; have HB := n2_; clear n0_ n1_ n2_; (try clear hb); (try clear hb2); (try clear hk); (try clear hi); have hcz28_0 : w27.cell? ⟨gb163, 0, none⟩ = some (.int .i64 x164000_2) := (blk_cell BK163.out 0).trans rfl; have hcz28_1 : w27.cell? ⟨gb163, 1, none⟩ = some (.int .i64 x164001_2) := (blk_cell BK163.out 1).trans rfl; have hcz28_2 : w27.cell? ⟨gb163, 2, none⟩ = some (.int .i64 x164002_2) := (blk_cell BK163.out 2).trans rfl; have hcz28_3 : w27.cell? ⟨gb163, 3, none⟩ = some (.int .i64 x164003_2) := (blk_cell BK163.out 3).trans rfl; have hcz28_4 : w27.cell? ⟨gb163, 4, none⟩ = some (.string x164004_2) := (blk_cell BK163.out 4).trans rfl; have hfz28_0 := blk_frozen BK163.out 0; have hfz28_1 := blk_frozen BK163.out 1; have hfz28_2 := blk_frozen BK163.out 2; have hfz28_3 := blk_frozen BK163.out 3; have hfz28_4 := blk_frozen BK163.out 4))
                        refine bodyPost_ret (results_ct rfl _ _ gb163 24 #[.int .i64 10, .int .i64 t164, .int .i64 t172, .int .i64 0, .string t171] (0, 0) _ rfl (by (with_reducible repeat (first | refine blk_drewN ?_ _ | refine blk_drew ?_ | refine blk_alloc ?_ _)); refine blk_put (cs := #[.int .i64 10, .int .i64 t164, .int .i64 t172, .int .i64 0, .string x164004_2]) ?_ 4 _ rfl; (with_reducible repeat (first | refine blk_drewN ?_ _ | refine blk_drew ?_ | refine blk_alloc ?_ _)); refine blk_put (cs := #[.int .i64 10, .int .i64 t164, .int .i64 t172, .int .i64 x164003_2, .string x164004_2]) ?_ 3 _ rfl; (with_reducible repeat (first | refine blk_drewN ?_ _ | refine blk_drew ?_ | refine blk_alloc ?_ _)); refine blk_put (cs := #[.int .i64 10, .int .i64 t164, .int .i64 x164002_2, .int .i64 x164003_2, .string x164004_2]) ?_ 2 _ rfl; (with_reducible repeat (first | refine blk_drewN ?_ _ | refine blk_drew ?_ | refine blk_alloc ?_ _)); refine blk_put (cs := #[.int .i64 10, .int .i64 x164001_2, .int .i64 x164002_2, .int .i64 x164003_2, .string x164004_2]) ?_ 1 _ rfl; (with_reducible repeat (first | refine blk_drewN ?_ _ | refine blk_drew ?_ | refine blk_alloc ?_ _)); refine blk_put (cs := #[.int .i64 x164000_2, .int .i64 x164001_2, .int .i64 x164002_2, .int .i64 x164003_2, .string x164004_2]) ?_ 0 _ rfl; (with_reducible repeat (first | refine blk_drewN ?_ _ | refine blk_drew ?_ | refine blk_alloc ?_ _)); exact BK163.out) Try.underlying24 rfl (by kernel_rfl)) rfl ?_
                        exact ⟨by first | rfl | (simp [errW_none, errW_some] <;> rfl) | (simp [*, errW_none, errW_some] <;> rfl), by repeat (first | (with_reducible first | exact HB.out | apply below_alloc | apply pw_below_drewN | apply below_drew1 | refine below_set ?_ GE163.out) | exact HB.out)⟩
                      · rw [if_neg c25] at H
                        have c25b0 : (t173 == 0) = false := beq_eq_false_iff_ne.mpr c25
                        have c25b1 : (t173 != 0) = true := bne_iff_ne.mpr c25
                        simp only [Option.some.injEq, Prod.mk.injEq] at H
                        obtain ⟨rfl, rfl, rfl, rfl, rfl, rfl⟩ := H
                        obtain ⟨Ao29, co29, eo29⟩ := Kd.R_slice HO_6.out
                        subst eo29
                        have p22 : 0 ≤ (t164 : Int) := of_decide_eq_true (by first | (with_reducible assumption) | assumption)
                        have q22 : t164 < (a0.size : Int) := of_decide_eq_true (by first | (with_reducible assumption) | assumption)
                        have hx22 := bt_at a0 t164
                        replace p22 := eq_true p22
                        replace q22 := eq_true q22
                        go_wp2_with (first | ((with_reducible refine gate_callee (f := 22) rfl ?_); refine goesL_ (some 65) rfl rfl Try.func22 (by kernel_rfl) rfl #[.string a0, .int .i64 t164] rfl (by (try simp only [List.map_toArray, List.map_cons, List.map_nil]); first | done | rfl | (simp only [List.length_drop, List.length_take]; rfl)) ?_; (with_reducible refine (sealringref04_Unquote.calls k2 a0 t164 t171 t172 t173 _ A24.out).mono ?_); rintro e w30 ⟨rfl, hb⟩; refine ⟨_, rfl, ?_⟩; have n0_ := Aside0.mk (Kd.R_below (by (with_reducible repeat (first | apply Kd.R_alloc | apply Kd.R_drewN | apply Kd.R_drew)); exact HO_6.out) hb); have n1_ := Aside0.mk (blk_below (g := gb163) (o := .cells #[.int .i64 x164000_2, .int .i64 x164001_2, .int .i64 x164002_2, .int .i64 x164003_2, .string x164004_2] 24 (0, 0)) (by (with_reducible repeat (first | refine blk_drewN ?_ _ | refine blk_drew ?_ | refine blk_alloc ?_ _)); exact BK163.out) hb); have n2_ := Aside0.mk (below_step (by repeat (first | (with_reducible first | exact HB.out | apply below_alloc | apply pw_below_drewN | apply below_drew1 | refine below_set ?_ GE163.out) | exact HB.out)) hb); clear HO_6; clear BK163; clear HB; have HO_6 := n0_; have BK163 := n1_; have HB := n2_; clear n0_ n1_ n2_; (try clear hb); (try clear hb2); (try clear hk); (try clear hi); have hcz31_0 : w30.cell? ⟨gb163, 0, none⟩ = some (.int .i64 x164000_2) := (blk_cell BK163.out 0).trans rfl; have hcz31_1 : w30.cell? ⟨gb163, 1, none⟩ = some (.int .i64 x164001_2) := (blk_cell BK163.out 1).trans rfl; have hcz31_2 : w30.cell? ⟨gb163, 2, none⟩ = some (.int .i64 x164002_2) := (blk_cell BK163.out 2).trans rfl; have hcz31_3 : w30.cell? ⟨gb163, 3, none⟩ = some (.int .i64 x164003_2) := (blk_cell BK163.out 3).trans rfl; have hcz31_4 : w30.cell? ⟨gb163, 4, none⟩ = some (.string x164004_2) := (blk_cell BK163.out 4).trans rfl; have hfz31_0 := blk_frozen BK163.out 0; have hfz31_1 := blk_frozen BK163.out 1; have hfz31_2 := blk_frozen BK163.out 2; have hfz31_3 := blk_frozen BK163.out 3; have hfz31_4 := blk_frozen BK163.out 4))
                        refine bodyPost_ret (results_ct rfl _ _ gb163 24 #[.int .i64 0, .int .i64 t164, .int .i64 0, .int .i64 0, .string (⟨#[]⟩ : ByteArray)] (0, 0) _ rfl (by (with_reducible repeat (first | refine blk_drewN ?_ _ | refine blk_drew ?_ | refine blk_alloc ?_ _)); refine blk_put (cs := #[.int .i64 0, .int .i64 t164, .int .i64 0, .int .i64 0, .string x164004_2]) ?_ 4 _ rfl; (with_reducible repeat (first | refine blk_drewN ?_ _ | refine blk_drew ?_ | refine blk_alloc ?_ _)); refine blk_put (cs := #[.int .i64 0, .int .i64 t164, .int .i64 0, .int .i64 x164003_2, .string x164004_2]) ?_ 3 _ rfl; (with_reducible repeat (first | refine blk_drewN ?_ _ | refine blk_drew ?_ | refine blk_alloc ?_ _)); refine blk_put (cs := #[.int .i64 0, .int .i64 t164, .int .i64 x164002_2, .int .i64 x164003_2, .string x164004_2]) ?_ 2 _ rfl; (with_reducible repeat (first | refine blk_drewN ?_ _ | refine blk_drew ?_ | refine blk_alloc ?_ _)); refine blk_put (cs := #[.int .i64 0, .int .i64 x164001_2, .int .i64 x164002_2, .int .i64 x164003_2, .string x164004_2]) ?_ 1 _ rfl; (with_reducible repeat (first | refine blk_drewN ?_ _ | refine blk_drew ?_ | refine blk_alloc ?_ _)); refine blk_put (cs := #[.int .i64 x164000_2, .int .i64 x164001_2, .int .i64 x164002_2, .int .i64 x164003_2, .string x164004_2]) ?_ 0 _ rfl; (with_reducible repeat (first | refine blk_drewN ?_ _ | refine blk_drew ?_ | refine blk_alloc ?_ _)); exact BK163.out) Try.underlying24 rfl (by kernel_rfl)) rfl ?_
                        exact ⟨by first | rfl | (simp [errW_none, errW_some] <;> rfl) | (simp [*, errW_none, errW_some] <;> rfl), by repeat (first | (with_reducible first | exact HB.out | apply below_alloc | apply pw_below_drewN | apply below_drew1 | refine below_set ?_ GE163.out) | exact HB.out)⟩
                    · rw [if_neg c23] at H
                      have c23b0 : ((bt a0 t164) == 34) = false := beq_eq_false_iff_ne.mpr c23
                      have c23b1 : ((bt a0 t164) != 34) = true := bne_iff_ne.mpr c23
                      have HC32 := Aside0.mk H
                      clear H
                      obtain ⟨Ao33, co33, eo33⟩ := Kd.R_slice HO_6.out
                      subst eo33
                      have p22 : 0 ≤ (t164 : Int) := of_decide_eq_true (by first | (with_reducible assumption) | assumption)
                      have q22 : t164 < (a0.size : Int) := of_decide_eq_true (by first | (with_reducible assumption) | assumption)
                      have hx22 := bt_at a0 t164
                      replace p22 := eq_true p22
                      replace q22 := eq_true q22
                      go_upto_region 17 with (fail)
                      go_cut [93] (fun v93 wc => ∃ (kq : Nat) (x93_31 : Bool), v93 = .bool x93_31 ∧ Aside0 (sealringref06_Next.j2 kq a0 t164 x93_31 = some (r1, r2, r3, r4, r5, r6)) ∧ Aside0 (kq ≤ k2) ∧ Aside0 (wc.heap[gb163]? = some (.cells #[.int .i64 x164000_2, .int .i64 x164001_2, .int .i64 x164002_2, .int .i64 x164003_2, .string x164004_2] 24 (0, 0))) ∧ Aside0 (Below w.heap.size w wc))
                      case first =>
                        have H := HC32.out
                        clear HC32
                        by_cases c35 : (bt a0 t164) = 45
                        · rw [if_pos c35] at H
                          have c35b0 : ((bt a0 t164) == 45) = true := beq_iff_eq.mpr c35
                          have c35b1 : ((bt a0 t164) != 45) = false := bne_eq_false_iff_eq.mpr c35
                          clear c35
                          (first | rw [c35b0] | (simp only [i64_w, i32_w]; rw [c35b0]) | skip)
                          have H' := Aside0.mk H
                          clear H
                          have p34 : 0 ≤ (t164 : Int) := of_decide_eq_true (by first | (with_reducible assumption) | assumption)
                          have q34 : t164 < (a0.size : Int) := of_decide_eq_true (by first | (with_reducible assumption) | assumption)
                          have hx34 := bt_at a0 t164
                          replace p34 := eq_true p34
                          replace q34 := eq_true q34
                          go_wp2
                          go_meet
                          case rel => exact ⟨_, (true), (by first | rfl | (simp; done) | (simp [*]; done) | (simp [wrap64]; done)), (by first | with_reducible exact H' | exact H' | (subst_vars; exact H')), ⟨by have := HJ2.out; have := HK2.out; first | omega | exact Nat.le_refl _⟩, ⟨by (with_reducible repeat (first | refine blk_drewN ?_ _ | refine blk_drew ?_ | refine blk_alloc ?_ _)); exact BK163.out⟩, ⟨by repeat (first | (with_reducible first | exact HB.out | apply below_alloc | apply pw_below_drewN | apply below_drew1 | refine below_set ?_ GE163.out) | exact HB.out)⟩⟩
                        · rw [if_neg c35] at H
                          have c35b0 : ((bt a0 t164) == 45) = false := beq_eq_false_iff_ne.mpr c35
                          have c35b1 : ((bt a0 t164) != 45) = true := bne_iff_ne.mpr c35
                          (first | rw [c35b0] | (simp only [i64_w, i32_w]; rw [c35b0]) | skip)
                          by_cases c37 : (bt a0 t164) ≥ 48
                          · rw [if_pos c37] at H
                            have c37b0 : decide (48 ≤ (bt a0 t164)) = true := decide_eq_true c37
                            clear c37
                            have H' := Aside0.mk H
                            clear H
                            have p34 : 0 ≤ (t164 : Int) := of_decide_eq_true (by first | (with_reducible assumption) | assumption)
                            have q34 : t164 < (a0.size : Int) := of_decide_eq_true (by first | (with_reducible assumption) | assumption)
                            have hx34 := bt_at a0 t164
                            replace p34 := eq_true p34
                            replace q34 := eq_true q34
                            have p36 : 0 ≤ (t164 : Int) := of_decide_eq_true (by first | (with_reducible assumption) | assumption)
                            have q36 : t164 < (a0.size : Int) := of_decide_eq_true (by first | (with_reducible assumption) | assumption)
                            have hx36 := bt_at a0 t164
                            replace p36 := eq_true p36
                            replace q36 := eq_true q36
                            have p38 : 0 ≤ (t164 : Int) := of_decide_eq_true (by first | (with_reducible assumption) | assumption)
                            have q38 : t164 < (a0.size : Int) := of_decide_eq_true (by first | (with_reducible assumption) | assumption)
                            have hx38 := bt_at a0 t164
                            replace p38 := eq_true p38
                            replace q38 := eq_true q38
                            go_wp2
                            go_meet
                            case rel => exact ⟨_, (decide ((bt a0 t164) ≤ 57)), (by first | rfl | (simp; done) | (simp [*]; done) | (simp [wrap64]; done)), (by first | with_reducible exact H' | exact H' | (subst_vars; exact H')), ⟨by have := HJ2.out; have := HK2.out; first | omega | exact Nat.le_refl _⟩, ⟨by (with_reducible repeat (first | refine blk_drewN ?_ _ | refine blk_drew ?_ | refine blk_alloc ?_ _)); exact BK163.out⟩, ⟨by repeat (first | (with_reducible first | exact HB.out | apply below_alloc | apply pw_below_drewN | apply below_drew1 | refine below_set ?_ GE163.out) | exact HB.out)⟩⟩
                          · rw [if_neg c37] at H
                            have c37b0 : decide (48 ≤ (bt a0 t164)) = false := decide_eq_false c37
                            clear c37
                            have H' := Aside0.mk H
                            clear H
                            have p34 : 0 ≤ (t164 : Int) := of_decide_eq_true (by first | (with_reducible assumption) | assumption)
                            have q34 : t164 < (a0.size : Int) := of_decide_eq_true (by first | (with_reducible assumption) | assumption)
                            have hx34 := bt_at a0 t164
                            replace p34 := eq_true p34
                            replace q34 := eq_true q34
                            have p36 : 0 ≤ (t164 : Int) := of_decide_eq_true (by first | (with_reducible assumption) | assumption)
                            have q36 : t164 < (a0.size : Int) := of_decide_eq_true (by first | (with_reducible assumption) | assumption)
                            have hx36 := bt_at a0 t164
                            replace p36 := eq_true p36
                            replace q36 := eq_true q36
                            go_wp2
                            go_meet
                            case rel => exact ⟨_, (false), (by first | rfl | (simp; done) | (simp [*]; done) | (simp [wrap64]; done)), (by first | with_reducible exact H' | exact H' | (subst_vars; exact H')), ⟨by have := HJ2.out; have := HK2.out; first | omega | exact Nat.le_refl _⟩, ⟨by (with_reducible repeat (first | refine blk_drewN ?_ _ | refine blk_drew ?_ | refine blk_alloc ?_ _)); exact BK163.out⟩, ⟨by repeat (first | (with_reducible first | exact HB.out | apply below_alloc | apply pw_below_drewN | apply below_drew1 | refine below_set ?_ GE163.out) | exact HB.out)⟩⟩
                      case rest =>
                        clear HC32
                        try clear c1
                        try clear p1
                        try clear q1
                        try clear hx1
                        try clear c2
                        try clear p2
                        try clear q2
                        try clear hx2
                        try clear c3
                        try clear p3
                        try clear q3
                        try clear hx3
                        try clear c5
                        try clear c5b0
                        try clear c6
                        try clear p6
                        try clear c8
                        try clear c9
                        try clear c9b0
                        try clear c9b1
                        try clear c13
                        try clear c13b0
                        try clear c14
                        try clear c14b0
                        try clear c16
                        try clear p16
                        try clear q16
                        try clear hx16
                        try clear p17
                        try clear q17
                        try clear hx17
                        try clear c20
                        try clear c20b0
                        try clear c21
                        try clear c21b0
                        try clear c22
                        try clear p22
                        try clear q22
                        try clear hx22
                        try clear c23
                        try clear c23b0
                        try clear c23b1
                        try clear c25
                        try clear c25b0
                        try clear c25b1
                        try clear p34
                        try clear q34
                        try clear hx34
                        try clear c35
                        try clear c35b0
                        try clear c35b1
                        try clear p36
                        try clear q36
                        try clear hx36
                        try clear c37
                        try clear c37b0
                        try clear p38
                        try clear q38
                        try clear hx38
                        try clear hcz10_0
                        try clear hcz10_1
                        try clear hcz10_2
                        try clear hcz10_3
                        try clear hcz10_4
                        try clear hcz18_0
                        try clear hcz18_1
                        try clear hcz18_2
                        try clear hcz18_3
                        try clear hcz18_4
                        try clear hcz28_0
                        try clear hcz28_1
                        try clear hcz28_2
                        try clear hcz28_3
                        try clear hcz28_4
                        try clear hcz31_0
                        try clear hcz31_1
                        try clear hcz31_2
                        try clear hcz31_3
                        try clear hcz31_4
                        try clear hcz7_0
                        try clear hcz7_1
                        try clear hcz7_2
                        try clear hcz7_3
                        try clear hcz7_4
                        try clear hfz10_0
                        try clear hfz10_1
                        try clear hfz10_2
                        try clear hfz10_3
                        try clear hfz10_4
                        try clear hfz18_0
                        try clear hfz18_1
                        try clear hfz18_2
                        try clear hfz18_3
                        try clear hfz18_4
                        try clear hfz28_0
                        try clear hfz28_1
                        try clear hfz28_2
                        try clear hfz28_3
                        try clear hfz28_4
                        try clear hfz31_0
                        try clear hfz31_1
                        try clear hfz31_2
                        try clear hfz31_3
                        try clear hfz31_4
                        try clear hfz7_0
                        try clear hfz7_1
                        try clear hfz7_2
                        try clear hfz7_3
                        try clear hfz7_4
                        try clear hx168_0
                        try clear hx170_0
                        try clear p168
                        try clear p170
                        try clear p2
                        try clear p22
                        try clear p34
                        try clear p36
                        try clear p38
                        try clear q168
                        try clear q170
                        try clear q22
                        try clear q34
                        try clear q36
                        try clear q38
                        obtain ⟨kq, x93_31, rfl, HA, HJ31, BK163, HB⟩ := hcut
                        cases kq with
                        | zero => exact absurd HA.out (by simp [sealringref06_Next.j2])
                        | succ kj31 =>
                          have H := HA.out
                          clear HA
                          simp only [sealringref06_Next.j2] at H
                          by_cases c39 : x93_31 = true
                          · subst c39
                            have H1 : ((sealringref05_Scan.f kj31 a0 t164).bind fun bt174 => (if bt174.2.2 = 0 then (some (11, t164, bt174.2.1, bt174.1, (⟨#[]⟩ : ByteArray), 0)) else (some (0, t164, 0, 0, (⟨#[]⟩ : ByteArray), bt174.2.2)))) = some (r1, r2, r3, r4, r5, r6) := by rw [if_pos rfl] at H; exact H
                            clear H
                            have H := H1
                            clear H1
                            replace H := Option.bind_eq_some_iff.mp H
                            obtain ⟨⟨t174, t175, t176⟩, A400, H⟩ := H
                            replace H : (if t176 = 0 then (some (11, t164, t175, t174, (⟨#[]⟩ : ByteArray), 0)) else (some (0, t164, 0, 0, (⟨#[]⟩ : ByteArray), t176))) = some (r1, r2, r3, r4, r5, r6) := H
                            have A40 := Aside0.mk A400
                            clear A400
                            by_cases c41 : t176 = 0
                            · rw [if_pos c41] at H
                              have c41b0 : (t176 == 0) = true := beq_iff_eq.mpr c41
                              have c41b1 : (t176 != 0) = false := bne_eq_false_iff_eq.mpr c41
                              clear c41
                              simp only [Option.some.injEq, Prod.mk.injEq] at H
                              obtain ⟨rfl, rfl, rfl, rfl, rfl, rfl⟩ := H
                              go_wp2_with (first | ((with_reducible refine gate_callee (f := 23) rfl ?_); refine goesL_ (some 97) rfl rfl Try.func23 (by kernel_rfl) rfl #[.string a0, .int .i64 t164] rfl (by (try simp only [List.map_toArray, List.map_cons, List.map_nil]); first | done | rfl | (simp only [List.length_drop, List.length_take]; rfl)) ?_; (with_reducible refine (sealringref05_Scan.calls kj31 a0 t164 t174 t175 t176 _ A40.out).mono ?_); rintro e w' ⟨rfl, ⟨nd, rfl⟩⟩; refine ⟨_, rfl, ?_⟩; (try (rw [drewN_self wc]; generalize hq_ : World.drewN wc _ = wc; have n0_ : Aside0 (wc.heap[gb163]? = some (.cells #[.int .i64 x164000_2, .int .i64 x164001_2, .int .i64 x164002_2, .int .i64 x164003_2, .string x164004_2] 24 (0, 0))) := ⟨by rw [← hq_]; exact (by (with_reducible repeat (first | refine blk_drewN ?_ _ | refine blk_drew ?_ | refine blk_alloc ?_ _)); exact BK163.out)⟩; have n1_ : Aside0 (Below w.heap.size w wc) := ⟨by rw [← hq_]; exact (by repeat (first | (with_reducible first | exact HB.out | apply below_alloc | apply pw_below_drewN | apply below_drew1 | refine below_set ?_ GE163.out) | exact HB.out))⟩; clear BK163 HB hq_; have BK163 := n0_; have HB := n1_; clear n0_ n1_)); have hcz42_0 : wc.cell? ⟨gb163, 0, none⟩ = some (.int .i64 x164000_2) := (blk_cell BK163.out 0).trans rfl; have hcz42_1 : wc.cell? ⟨gb163, 1, none⟩ = some (.int .i64 x164001_2) := (blk_cell BK163.out 1).trans rfl; have hcz42_2 : wc.cell? ⟨gb163, 2, none⟩ = some (.int .i64 x164002_2) := (blk_cell BK163.out 2).trans rfl; have hcz42_3 : wc.cell? ⟨gb163, 3, none⟩ = some (.int .i64 x164003_2) := (blk_cell BK163.out 3).trans rfl; have hcz42_4 : wc.cell? ⟨gb163, 4, none⟩ = some (.string x164004_2) := (blk_cell BK163.out 4).trans rfl; have hfz42_0 := blk_frozen BK163.out 0; have hfz42_1 := blk_frozen BK163.out 1; have hfz42_2 := blk_frozen BK163.out 2; have hfz42_3 := blk_frozen BK163.out 3; have hfz42_4 := blk_frozen BK163.out 4))
                              refine bodyPost_ret (results_ct rfl _ _ gb163 24 #[.int .i64 11, .int .i64 t164, .int .i64 t175, .int .i64 t174, .string (⟨#[]⟩ : ByteArray)] (0, 0) _ rfl (by (with_reducible repeat (first | refine blk_drewN ?_ _ | refine blk_drew ?_ | refine blk_alloc ?_ _)); refine blk_put (cs := #[.int .i64 11, .int .i64 t164, .int .i64 t175, .int .i64 t174, .string x164004_2]) ?_ 4 _ rfl; (with_reducible repeat (first | refine blk_drewN ?_ _ | refine blk_drew ?_ | refine blk_alloc ?_ _)); refine blk_put (cs := #[.int .i64 11, .int .i64 t164, .int .i64 t175, .int .i64 x164003_2, .string x164004_2]) ?_ 3 _ rfl; (with_reducible repeat (first | refine blk_drewN ?_ _ | refine blk_drew ?_ | refine blk_alloc ?_ _)); refine blk_put (cs := #[.int .i64 11, .int .i64 t164, .int .i64 x164002_2, .int .i64 x164003_2, .string x164004_2]) ?_ 2 _ rfl; (with_reducible repeat (first | refine blk_drewN ?_ _ | refine blk_drew ?_ | refine blk_alloc ?_ _)); refine blk_put (cs := #[.int .i64 11, .int .i64 x164001_2, .int .i64 x164002_2, .int .i64 x164003_2, .string x164004_2]) ?_ 1 _ rfl; (with_reducible repeat (first | refine blk_drewN ?_ _ | refine blk_drew ?_ | refine blk_alloc ?_ _)); refine blk_put (cs := #[.int .i64 x164000_2, .int .i64 x164001_2, .int .i64 x164002_2, .int .i64 x164003_2, .string x164004_2]) ?_ 0 _ rfl; (with_reducible repeat (first | refine blk_drewN ?_ _ | refine blk_drew ?_ | refine blk_alloc ?_ _)); exact BK163.out) Try.underlying24 rfl (by kernel_rfl)) rfl ?_
                              exact ⟨by first | rfl | (simp [errW_none, errW_some] <;> rfl) | (simp [*, errW_none, errW_some] <;> rfl), by repeat (first | (with_reducible first | exact HB.out | apply below_alloc | apply pw_below_drewN | apply below_drew1 | refine below_set ?_ GE163.out) | exact HB.out)⟩
                            · rw [if_neg c41] at H
                              have c41b0 : (t176 == 0) = false := beq_eq_false_iff_ne.mpr c41
                              have c41b1 : (t176 != 0) = true := bne_iff_ne.mpr c41
                              simp only [Option.some.injEq, Prod.mk.injEq] at H
                              obtain ⟨rfl, rfl, rfl, rfl, rfl, rfl⟩ := H
                              go_wp2_with (first | ((with_reducible refine gate_callee (f := 23) rfl ?_); refine goesL_ (some 97) rfl rfl Try.func23 (by kernel_rfl) rfl #[.string a0, .int .i64 t164] rfl (by (try simp only [List.map_toArray, List.map_cons, List.map_nil]); first | done | rfl | (simp only [List.length_drop, List.length_take]; rfl)) ?_; (with_reducible refine (sealringref05_Scan.calls kj31 a0 t164 t174 t175 t176 _ A40.out).mono ?_); rintro e w' ⟨rfl, ⟨nd, rfl⟩⟩; refine ⟨_, rfl, ?_⟩; (try (rw [drewN_self wc]; generalize hq_ : World.drewN wc _ = wc; have n0_ : Aside0 (wc.heap[gb163]? = some (.cells #[.int .i64 x164000_2, .int .i64 x164001_2, .int .i64 x164002_2, .int .i64 x164003_2, .string x164004_2] 24 (0, 0))) := ⟨by rw [← hq_]; exact (by (with_reducible repeat (first | refine blk_drewN ?_ _ | refine blk_drew ?_ | refine blk_alloc ?_ _)); exact BK163.out)⟩; have n1_ : Aside0 (Below w.heap.size w wc) := ⟨by rw [← hq_]; exact (by repeat (first | (with_reducible first | exact HB.out | apply below_alloc | apply pw_below_drewN | apply below_drew1 | refine below_set ?_ GE163.out) | exact HB.out))⟩; clear BK163 HB hq_; have BK163 := n0_; have HB := n1_; clear n0_ n1_)); have hcz43_0 : wc.cell? ⟨gb163, 0, none⟩ = some (.int .i64 x164000_2) := (blk_cell BK163.out 0).trans rfl; have hcz43_1 : wc.cell? ⟨gb163, 1, none⟩ = some (.int .i64 x164001_2) := (blk_cell BK163.out 1).trans rfl; have hcz43_2 : wc.cell? ⟨gb163, 2, none⟩ = some (.int .i64 x164002_2) := (blk_cell BK163.out 2).trans rfl; have hcz43_3 : wc.cell? ⟨gb163, 3, none⟩ = some (.int .i64 x164003_2) := (blk_cell BK163.out 3).trans rfl; have hcz43_4 : wc.cell? ⟨gb163, 4, none⟩ = some (.string x164004_2) := (blk_cell BK163.out 4).trans rfl; have hfz43_0 := blk_frozen BK163.out 0; have hfz43_1 := blk_frozen BK163.out 1; have hfz43_2 := blk_frozen BK163.out 2; have hfz43_3 := blk_frozen BK163.out 3; have hfz43_4 := blk_frozen BK163.out 4))
                              refine bodyPost_ret (results_ct rfl _ _ gb163 24 #[.int .i64 0, .int .i64 t164, .int .i64 0, .int .i64 0, .string (⟨#[]⟩ : ByteArray)] (0, 0) _ rfl (by (with_reducible repeat (first | refine blk_drewN ?_ _ | refine blk_drew ?_ | refine blk_alloc ?_ _)); refine blk_put (cs := #[.int .i64 0, .int .i64 t164, .int .i64 0, .int .i64 0, .string x164004_2]) ?_ 4 _ rfl; (with_reducible repeat (first | refine blk_drewN ?_ _ | refine blk_drew ?_ | refine blk_alloc ?_ _)); refine blk_put (cs := #[.int .i64 0, .int .i64 t164, .int .i64 0, .int .i64 x164003_2, .string x164004_2]) ?_ 3 _ rfl; (with_reducible repeat (first | refine blk_drewN ?_ _ | refine blk_drew ?_ | refine blk_alloc ?_ _)); refine blk_put (cs := #[.int .i64 0, .int .i64 t164, .int .i64 x164002_2, .int .i64 x164003_2, .string x164004_2]) ?_ 2 _ rfl; (with_reducible repeat (first | refine blk_drewN ?_ _ | refine blk_drew ?_ | refine blk_alloc ?_ _)); refine blk_put (cs := #[.int .i64 0, .int .i64 x164001_2, .int .i64 x164002_2, .int .i64 x164003_2, .string x164004_2]) ?_ 1 _ rfl; (with_reducible repeat (first | refine blk_drewN ?_ _ | refine blk_drew ?_ | refine blk_alloc ?_ _)); refine blk_put (cs := #[.int .i64 x164000_2, .int .i64 x164001_2, .int .i64 x164002_2, .int .i64 x164003_2, .string x164004_2]) ?_ 0 _ rfl; (with_reducible repeat (first | refine blk_drewN ?_ _ | refine blk_drew ?_ | refine blk_alloc ?_ _)); exact BK163.out) Try.underlying24 rfl (by kernel_rfl)) rfl ?_
                              exact ⟨by first | rfl | (simp [errW_none, errW_some] <;> rfl) | (simp [*, errW_none, errW_some] <;> rfl), by repeat (first | (with_reducible first | exact HB.out | apply below_alloc | apply pw_below_drewN | apply below_drew1 | refine below_set ?_ GE163.out) | exact HB.out)⟩
                          · replace c39 := Bool.eq_false_iff.mpr c39
                            subst c39
                            have H1 : (some (0, t164, 0, 0, (⟨#[]⟩ : ByteArray), 6)) = some (r1, r2, r3, r4, r5, r6) := by rw [if_neg (show ¬ (false = true) by decide)] at H; exact H
                            clear H
                            have H := H1
                            clear H1
                            simp only [Option.some.injEq, Prod.mk.injEq] at H
                            obtain ⟨rfl, rfl, rfl, rfl, rfl, rfl⟩ := H
                            have hcz44_0 : wc.cell? ⟨gb163, 0, none⟩ = some (.int .i64 x164000_2) := (blk_cell BK163.out 0).trans rfl
                            have hcz44_1 : wc.cell? ⟨gb163, 1, none⟩ = some (.int .i64 x164001_2) := (blk_cell BK163.out 1).trans rfl
                            have hcz44_2 : wc.cell? ⟨gb163, 2, none⟩ = some (.int .i64 x164002_2) := (blk_cell BK163.out 2).trans rfl
                            have hcz44_3 : wc.cell? ⟨gb163, 3, none⟩ = some (.int .i64 x164003_2) := (blk_cell BK163.out 3).trans rfl
                            have hcz44_4 : wc.cell? ⟨gb163, 4, none⟩ = some (.string x164004_2) := (blk_cell BK163.out 4).trans rfl
                            have hfz44_0 := blk_frozen BK163.out 0
                            have hfz44_1 := blk_frozen BK163.out 1
                            have hfz44_2 := blk_frozen BK163.out 2
                            have hfz44_3 := blk_frozen BK163.out 3
                            have hfz44_4 := blk_frozen BK163.out 4
                            go_wp2
                            refine bodyPost_ret (results_ct rfl _ _ gb163 24 #[.int .i64 0, .int .i64 t164, .int .i64 0, .int .i64 0, .string (⟨#[]⟩ : ByteArray)] (0, 0) _ rfl (by (with_reducible repeat (first | refine blk_drewN ?_ _ | refine blk_drew ?_ | refine blk_alloc ?_ _)); refine blk_put (cs := #[.int .i64 0, .int .i64 t164, .int .i64 0, .int .i64 0, .string x164004_2]) ?_ 4 _ rfl; (with_reducible repeat (first | refine blk_drewN ?_ _ | refine blk_drew ?_ | refine blk_alloc ?_ _)); refine blk_put (cs := #[.int .i64 0, .int .i64 t164, .int .i64 0, .int .i64 x164003_2, .string x164004_2]) ?_ 3 _ rfl; (with_reducible repeat (first | refine blk_drewN ?_ _ | refine blk_drew ?_ | refine blk_alloc ?_ _)); refine blk_put (cs := #[.int .i64 0, .int .i64 t164, .int .i64 x164002_2, .int .i64 x164003_2, .string x164004_2]) ?_ 2 _ rfl; (with_reducible repeat (first | refine blk_drewN ?_ _ | refine blk_drew ?_ | refine blk_alloc ?_ _)); refine blk_put (cs := #[.int .i64 0, .int .i64 x164001_2, .int .i64 x164002_2, .int .i64 x164003_2, .string x164004_2]) ?_ 1 _ rfl; (with_reducible repeat (first | refine blk_drewN ?_ _ | refine blk_drew ?_ | refine blk_alloc ?_ _)); refine blk_put (cs := #[.int .i64 x164000_2, .int .i64 x164001_2, .int .i64 x164002_2, .int .i64 x164003_2, .string x164004_2]) ?_ 0 _ rfl; (with_reducible repeat (first | refine blk_drewN ?_ _ | refine blk_drew ?_ | refine blk_alloc ?_ _)); exact BK163.out) Try.underlying24 rfl (by kernel_rfl)) rfl ?_
                            exact ⟨by first | rfl | (simp [errW_none, errW_some] <;> rfl) | (simp [*, errW_none, errW_some] <;> rfl), by repeat (first | (with_reducible first | exact HB.out | apply below_alloc | apply pw_below_drewN | apply below_drew1 | refine below_set ?_ GE163.out) | exact HB.out)⟩
                  · rw [if_neg c21] at H
                    exact absurd H (by simp)
                · rw [if_neg c20] at H
                  exact absurd H (by simp)
end Go.Proofs.Ytjdgjifacdnkgaa.X
end
section
namespace Go.Proofs.Ytjdgjifacdnkgaa.X
open Go.RowKit Go.Proofs.YtjdgjifacdnkgaaW.PrintWords Go.Proofs.YtjdgjifacdnkgaaW.PrintLast
set_option linter.unusedVariables false
set_option linter.unusedSimpArgs false
theorem toList_d (s : ByteArray) : s.toList = s.data.toList := Go.ByteArray.toList_eq s
theorem blanks_go (t : ByteArray) (ht : t.size ≤ 35184372080000) : ∀ (n : Nat) (a : Int), 0 ≤ a → (t.size : Int) - a < n → a ≤ (t.size : Int) → Ev (fun k => sealringref06_blanks.l0 k t a) (skipP t n a)
  | 0, a, h0, h1, h2 => by omega
  | n + 1, a, h0, h1, h2 => by
    refine Ev.step (fun k => rfl) ?_
    unfold skipP
    by_cases c1 : a < (t.size : Int)
    · rw [if_pos c1]
      refine evPos c1 (evPos h0 ?_)
      have hw : wrap64 (a + 1) = a + 1 := w64 (by omega) (by omega)
      rw [hw]
      have ih := blanks_go t ht n (a + 1) (by omega) (by omega) (by omega)
      unfold blankI
      by_cases e1 : bt t a = 9
      · rw [if_pos (by simp [e1])]; exact evPos e1 ih
      · refine evNeg e1 ?_
        by_cases e2 : bt t a = 10
        · rw [if_pos (by simp [e2])]; exact evPos e2 ih
        · refine evNeg e2 ?_
          by_cases e3 : bt t a = 13
          · rw [if_pos (by simp [e3])]; exact evPos e3 ih
          · refine evNeg e3 ?_
            by_cases e4 : bt t a = 32
            · rw [if_pos (by simp [e4])]; exact evPos e4 ih
            · refine evNeg e4 ?_
              rw [if_neg (by simp [e1, e2, e3, e4])]
              exact Ev.now _
    · rw [if_neg c1]
      exact evNeg c1 (Ev.now _)
def wordB (t : ByteArray) (a : Int) (w : ByteArray) : Bool := decide ((w.size : Int) ≤ (t.size : Int) - a) && ((t.extract a.toNat (a.toNat + w.size)).data.toList == w.data.toList)
theorem word_f {t : ByteArray} (ht : t.size ≤ 35184372080000) {a : Int} (h0 : 0 ≤ a) (ha : a ≤ (t.size : Int)) {w : ByteArray} (hw : w.size ≤ 10) : sealringref06_word.f t a w = some (wordB t a w) := by
  unfold sealringref06_word.f wordB
  have e1 : wrap64 ((t.size : Int) - a) = (t.size : Int) - a := w64 (by omega) (by omega)
  have e2 : wrap64 (a + (w.size : Int)) = a + (w.size : Int) := w64 (by omega) (by omega)
  rw [e1, e2]
  by_cases c : (w.size : Int) ≤ (t.size : Int) - a
  · rw [if_pos c, if_pos h0, if_pos (by omega), if_pos (by omega), toList_d, toList_d, decide_eq_true c, Bool.true_and, show (a + (w.size : Int)).toNat = a.toNat + w.size by omega]
  · rw [if_neg (by omega), decide_eq_false c, Bool.false_and]
theorem word1 {t : ByteArray} {a : Int} (h0 : 0 ≤ a) (ha : a < (t.size : Int)) (c : UInt8) : wordB t a ⟨#[c]⟩ = decide (bt t a = (c.toNat : Int)) := by
  obtain ⟨i, rfl⟩ : ∃ i : Nat, a = (i : Int) := ⟨a.toNat, by omega⟩
  have hi : i < t.size := by omega
  unfold wordB
  rw [decide_eq_true (show ((⟨#[c]⟩ : ByteArray).size : Int) ≤ (t.size : Int) - i by show ((1 : Nat) : Int) ≤ _; omega), Bool.true_and, bt_nat t i hi]
  rw [show (⟨#[c]⟩ : ByteArray).size = 1 from rfl, show ((i : Int)).toNat = i from rfl]
  have e : (t.extract i (i + 1)).data.toList = [t[i]] := by
    rw [ByteArray.data_extract, Array.toList_extract, List.extract_eq_take_drop, show i + 1 - i = 1 by omega]
    have hl : i < t.data.toList.length := by rw [Array.length_toList]; exact hi
    rw [List.drop_eq_getElem_cons hl]
    rfl
  rw [e]
  rw [Bool.eq_iff_iff]
  simp only [beq_iff_eq, decide_eq_true_eq, List.cons.injEq, and_true]
  constructor
  · intro h; rw [h]
  · intro h; exact UInt8.toNat_inj.1 (by omega)
theorem wordN {t : ByteArray} {a : Int} (h0 : 0 ≤ a) (ha : a ≤ (t.size : Int)) (w : ByteArray) : wordB t a w = preP t a w := by
  obtain ⟨i, rfl⟩ : ∃ i : Nat, a = (i : Int) := ⟨a.toNat, by omega⟩
  have hi : i ≤ t.size := by omega
  unfold wordB preP Lib.hasPrefix
  rw [show ((i : Int)).toNat = i from rfl]
  have e : ∀ n, (t.extract i n).data.toList = (t.data.toList.drop i).take (n - i) := fun n => by
    rw [ByteArray.data_extract, Array.toList_extract, List.extract_eq_take_drop]
  rw [e, e, show i + w.size - i = w.size by omega]
  have hl : (t.data.toList.drop i).length = t.size - i := by rw [List.length_drop, Array.length_toList]; rfl
  rw [List.take_of_length_le (i := t.size - i) (by omega)]
  have hw : w.data.toList.length = w.size := by rw [Array.length_toList]; rfl
  rw [Bool.eq_iff_iff]
  simp only [Bool.and_eq_true, decide_eq_true_eq, beq_iff_eq, List.isPrefixOf_iff_prefix]
  constructor
  · rintro ⟨h1, h2⟩
    rw [← h2]; exact List.take_prefix _ _
  · intro h
    have h3 := h.length_le
    refine ⟨by omega, ?_⟩
    rw [← hw]
    exact (List.prefix_iff_eq_take.1 h).symm
theorem word4 {t : ByteArray} {a : Int} (h0 : 0 ≤ a) (ha : a < (t.size : Int)) {w : ByteArray} {c : UInt8} {l : List UInt8} (hw : w.data.toList = c :: l) (h : wordB t a w = true) : bt t a = (c.toNat : Int) := by
  rw [wordN h0 (by omega)] at h
  obtain ⟨i, rfl⟩ : ∃ i : Nat, a = (i : Int) := ⟨a.toNat, by omega⟩
  have hi : i < t.size := by omega
  unfold preP Lib.hasPrefix at h
  rw [hw, show ((i : Int)).toNat = i from rfl, ByteArray.data_extract, Array.toList_extract, List.extract_eq_take_drop, List.isPrefixOf_iff_prefix] at h
  have hl : i < t.data.toList.length := by rw [Array.length_toList]; exact hi
  rw [List.drop_eq_getElem_cons hl] at h
  obtain ⟨r, hr⟩ := h
  obtain ⟨m, hm⟩ : ∃ m, t.size - i = m + 1 := ⟨t.size - i - 1, by omega⟩
  rw [hm, List.take_succ_cons, List.cons_append] at hr
  simp only [List.cons.injEq] at hr
  rw [bt_nat t i hi, hr.1]
  rfl
abbrev words9 : List ByteArray := [⟨#[123]⟩, ⟨#[125]⟩, ⟨#[91]⟩, ⟨#[93]⟩, ⟨#[44]⟩, ⟨#[58]⟩, ⟨#[116, 114, 117, 101]⟩, ⟨#[102, 97, 108, 115, 101]⟩, ⟨#[110, 117, 108, 108]⟩]
theorem words_step {t : ByteArray} (ht : t.size ≤ 35184372080000) {a : Int} (h0 : 0 ≤ a) (ha : a < (t.size : Int)) (i : Nat) (hi : i < 9) {r : Int × Int × Int × Int × ByteArray × Int}
    (h1 : wordB t a (rdOf ByteArray.empty words9 (i : Int)) = true → ((i : Int) + 1, a, a + ((rdOf ByteArray.empty words9 (i : Int)).size : Int), 0, (⟨#[]⟩ : ByteArray), 0) = r)
    (h2 : wordB t a (rdOf ByteArray.empty words9 (i : Int)) = false → Ev (fun k => sealringref06_Next.l0 k t a words9 ((i + 1 : Nat) : Int)) r) :
    Ev (fun k => sealringref06_Next.l0 k t a words9 (i : Int)) r := by
  refine Ev.step (fun k => by rw [sealringref06_Next.l0]) ?_
  have hw : (rdOf ByteArray.empty words9 (i : Int)).size ≤ 10 := by
    have : i = 0 ∨ i = 1 ∨ i = 2 ∨ i = 3 ∨ i = 4 ∨ i = 5 ∨ i = 6 ∨ i = 7 ∨ i = 8 := by omega
    rcases this with rfl | rfl | rfl | rfl | rfl | rfl | rfl | rfl | rfl <;> decide
  refine evPos (by show (i : Int) < ((9 : Nat) : Int); omega) (evPos (by omega) ?_)
  rw [word_f ht h0 (by omega) hw]
  refine Ev.bind (Ev.now _) ?_
  rw [w64s i (by omega), w64 (x := a + _) (by omega) (by omega)]
  cases hb : wordB t a (rdOf ByteArray.empty words9 (i : Int)) with
  | true => refine evPos rfl ?_; rw [← h1 hb]; exact Ev.now _
  | false => exact evNeg (by simp) (h2 hb)
theorem rLexNext_ev (t : ByteArray) (ht : t.size ≤ 35184372080000) (a : Int) : Ev (fun k => sealringref06_Next.f k t a) (nextP t a) := by
  unfold sealringref06_Next.f nextP
  by_cases c1 : a < 0
  · rw [if_pos c1]
    exact evPos c1 (Ev.step (f := fun _ => some (failP 0 1)) (fun k => by rw [sealringref06_Next.j0, if_pos rfl]; rfl) (Ev.now _))
  rw [if_neg c1]
  refine evNeg c1 (Ev.step (fun k => by rw [sealringref06_Next.j0]) ?_)
  by_cases c2 : a > (t.size : Int)
  · rw [if_pos c2]
    exact evPos (by simpa using c2) (Ev.now _)
  rw [if_neg c2]
  refine evNeg (by simpa using c2) (Ev.bind (f := fun k x => if x = (t.size : Int) then some (12, x, x, 0, (⟨#[]⟩ : ByteArray), 0) else sealringref06_Next.l0 k t x words9 0) (blanks_go t ht (t.size + 1) a (by omega) (by omega) (by omega)) ?_)
  have hr := skip_range t (t.size + 1) a (by omega)
  generalize skipP t (t.size + 1) a = b at hr
  have h0 : 0 ≤ b := by omega
  unfold tokP
  by_cases c3 : b = (t.size : Int)
  · rw [if_pos c3]
    exact evPos c3 (Ev.now _)
  rw [if_neg c3]
  refine evNeg c3 ?_
  have hb : b < (t.size : Int) := by omega
  have sign : ∀ (i : Nat) (c : UInt8) (hi : i < 9) (hw : rdOf ByteArray.empty words9 (i : Int) = ⟨#[c]⟩) (r), (bt t b = (c.toNat : Int) → ((i : Int) + 1, b, b + 1, 0, (⟨#[]⟩ : ByteArray), 0) = r) → (bt t b ≠ (c.toNat : Int) → Ev (fun k => sealringref06_Next.l0 k t b words9 ((i + 1 : Nat) : Int)) r) → Ev (fun k => sealringref06_Next.l0 k t b words9 (i : Int)) r := by
    intro i c hi hw r g1 g2
    refine words_step ht h0 hb i hi (fun h => ?_) (fun h => ?_)
    · rw [hw, word1 h0 hb] at h
      rw [hw]
      exact g1 (of_decide_eq_true h)
    · rw [hw, word1 h0 hb] at h
      exact g2 (of_decide_eq_false h)
  have nm : ∀ (i : Nat) (hi : i < 9) (w : ByteArray) (hw : rdOf ByteArray.empty words9 (i : Int) = w) (r), (preP t b w = true → ((i : Int) + 1, b, b + (w.size : Int), 0, (⟨#[]⟩ : ByteArray), 0) = r) → (preP t b w = false → Ev (fun k => sealringref06_Next.l0 k t b words9 ((i + 1 : Nat) : Int)) r) → Ev (fun k => sealringref06_Next.l0 k t b words9 (i : Int)) r := by
    intro i hi w hw r g1 g2
    refine words_step ht h0 hb i hi (fun h => ?_) (fun h => ?_)
    · rw [hw, wordN h0 (by omega)] at h
      rw [hw]
      exact g1 h
    · rw [hw, wordN h0 (by omega)] at h
      exact g2 h
  have tail : ∀ r, (if bt t b = 34 then (match unqP t b with | (s, e, x) => if x = 0 then (10, b, e, 0, s, 0) else failP b x) else if bt t b = 45 ∨ (48 ≤ bt t b ∧ bt t b ≤ 57) then (match numScan t b with | (n, e, x) => if x = 0 then (11, b, e, n, (⟨#[]⟩ : ByteArray), 0) else failP b x) else failP b 6) = r →
      Ev (fun k => sealringref06_Next.l0 k t b words9 ((9 : Nat) : Int)) r := by
    intro r hr
    subst hr
    refine Ev.step (fun k => by rw [sealringref06_Next.l0]) (evNeg (by show ¬ ((9 : Nat) : Int) < ((9 : Nat) : Int); omega) (evPos h0 (evPos hb ?_)))
    by_cases d1 : bt t b = 34
    · rw [if_pos d1]
      refine evPos d1 (Ev.bind (f := fun _ (z : ByteArray × Int × Int) => if z.2.2 = 0 then some (10, b, z.2.1, 0, z.1, 0) else some (0, b, 0, 0, (⟨#[]⟩ : ByteArray), z.2.2)) (rUnquote_ev t ht b) ?_)
      generalize unqP t b = z
      obtain ⟨s, e, x⟩ := z
      by_cases d2 : x = 0
      · subst d2
        exact evPos rfl (Ev.now _)
      · simp only [if_neg d2]
        exact Ev.now _
    rw [if_neg d1]
    refine evNeg d1 ?_
    have num : ∀ (yes : Bool), (yes = true ↔ (bt t b = 45 ∨ (48 ≤ bt t b ∧ bt t b ≤ 57))) → Ev (fun k => sealringref06_Next.j2 k t b yes) (if bt t b = 45 ∨ (48 ≤ bt t b ∧ bt t b ≤ 57) then (match numScan t b with | (n, e, x) => if x = 0 then (11, b, e, n, (⟨#[]⟩ : ByteArray), 0) else failP b x) else failP b 6) := by
      intro yes hy
      refine Ev.step (fun k => by rw [sealringref06_Next.j2]) ?_
      by_cases d3 : bt t b = 45 ∨ (48 ≤ bt t b ∧ bt t b ≤ 57)
      · rw [if_pos d3]
        refine evPos (hy.2 d3) (Ev.bind (f := fun _ (z : Int × Int × Int) => if z.2.2 = 0 then some (11, b, z.2.1, z.1, (⟨#[]⟩ : ByteArray), 0) else some (0, b, 0, 0, (⟨#[]⟩ : ByteArray), z.2.2)) (refScan_ev t (by omega) b) ?_)
        generalize numScan t b = z
        obtain ⟨n, e, x⟩ := z
        by_cases d2 : x = 0
        · subst d2
          exact evPos rfl (Ev.now _)
        · simp only [if_neg d2]
          exact Ev.now _
      · rw [if_neg d3]
        exact evNeg (fun h => d3 (hy.1 h)) (Ev.now _)
    by_cases d4 : bt t b = 45
    · exact evPos d4 (num true (by simp [d4]))
    refine evNeg d4 ?_
    by_cases d5 : bt t b ≥ 48
    · exact evPos d5 (num _ (by simp [d4]; omega))
    · exact evNeg d5 (num false (by simp [d4]; omega))
  have s0 := bt_range t b
  refine sign 0 123 (by omega) rfl _ (fun h => ?_) (fun n10 => ?_)
  · simp [signP, show bt t b = 123 from h]
  have n1 : ¬ bt t b = 123 := n10
  refine sign 1 125 (by omega) rfl _ (fun h => ?_) (fun n20 => ?_)
  · simp [signP, show bt t b = 125 from h]
  have n2 : ¬ bt t b = 125 := n20
  refine sign 2 91 (by omega) rfl _ (fun h => ?_) (fun n30 => ?_)
  · simp [signP, show bt t b = 91 from h]
  have n3 : ¬ bt t b = 91 := n30
  refine sign 3 93 (by omega) rfl _ (fun h => ?_) (fun n40 => ?_)
  · simp [signP, show bt t b = 93 from h]
  have n4 : ¬ bt t b = 93 := n40
  refine sign 4 44 (by omega) rfl _ (fun h => ?_) (fun n50 => ?_)
  · simp [signP, show bt t b = 44 from h]
  have n5 : ¬ bt t b = 44 := n50
  refine sign 5 58 (by omega) rfl _ (fun h => ?_) (fun n60 => ?_)
  · simp [signP, show bt t b = 58 from h]
  have n6 : ¬ bt t b = 58 := n60
  have hsg : signP (bt t b) = none := by
    unfold signP
    rw [if_neg n1, if_neg n2, if_neg n3, if_neg n4, if_neg n5, if_neg n6]
  rw [hsg]
  simp only
  have pw : ∀ {w : ByteArray} {c : UInt8} {l : List UInt8}, w.data.toList = c :: l → preP t b w = true → bt t b = (c.toNat : Int) := fun hw h => word4 h0 hb hw (by rw [wordN h0 (by omega)]; exact h)
  refine nm 6 (by omega) ⟨#[116, 114, 117, 101]⟩ rfl _ (fun h => ?_) (fun m1 => ?_)
  · have e : bt t b = 116 := pw (c := 116) (l := [114, 117, 101]) rfl h
    simp only [nameP, if_pos e]
    rw [if_pos (show preP t b (nameS 7) = true from h)]
    rfl
  refine nm 7 (by omega) ⟨#[102, 97, 108, 115, 101]⟩ rfl _ (fun h => ?_) (fun m2 => ?_)
  · have e : bt t b = 102 := pw (c := 102) (l := [97, 108, 115, 101]) rfl h
    simp only [nameP, if_neg (show ¬ bt t b = 116 by omega), if_pos e]
    rw [if_pos (show preP t b (nameS 8) = true from h)]
    rfl
  refine nm 8 (by omega) ⟨#[110, 117, 108, 108]⟩ rfl _ (fun h => ?_) (fun m3 => ?_)
  · have e : bt t b = 110 := pw (c := 110) (l := [117, 108, 108]) rfl h
    simp only [nameP, if_neg (show ¬ bt t b = 116 by omega), if_neg (show ¬ bt t b = 102 by omega), if_pos e]
    rw [if_pos (show preP t b (nameS 9) = true from h)]
    rfl
  refine tail _ ?_
  unfold nameP
  by_cases e1 : bt t b = 116
  · rw [if_pos e1, if_neg (by omega), if_neg (by omega)]
    simp only
    rw [if_neg (by rw [show preP t b (nameS 7) = false from m1]; simp)]
  rw [if_neg e1]
  by_cases e2 : bt t b = 102
  · rw [if_pos e2, if_neg (by omega), if_neg (by omega)]
    simp only
    rw [if_neg (by rw [show preP t b (nameS 8) = false from m2]; simp)]
  rw [if_neg e2]
  by_cases e3 : bt t b = 110
  · rw [if_pos e3, if_neg (by omega), if_neg (by omega)]
    simp only
    rw [if_neg (by rw [show preP t b (nameS 9) = false from m3]; simp)]
  rw [if_neg e3]
end Go.Proofs.Ytjdgjifacdnkgaa.X
end
section
namespace Go.Proofs.Ytjdgjifacdnkgaa.X
open Go.RowKit Go.Shelf Go.Proofs.YtjdgjifacdnkgaaW.PrintWords
attribute [local go_sem] Oper.semAt_some
set_option linter.unusedVariables false
set_option linter.unusedSimpArgs false
def lexL (t : ByteArray) : Nat → Int → Option (List S24 × Int × Int)
  | 0, _ => none
  | k + 1, a => match nextP t a with
    | (kd, f, b, n, s, e) => if e = 0 then (if kd = 12 then some ([⟨kd, f, b, n, s⟩], 0, 0) else (lexL t k b).map fun y => (⟨kd, f, b, n, s⟩ :: y.1, y.2)) else some ([], f, e)
abbrev tokW (x : S24) : Value := .agg #[.int .i64 x.f0, .int .i64 x.f1, .int .i64 x.f2, .int .i64 x.f3, .string x.f4]
abbrev encTok (x : S24) : Array Value := #[tokW x]
def KeepTok (Bn : Nat) (v : Value) (W W' : World) : Prop := (W.cell? ⟨Bn, 0, none⟩ = some v → W'.cell? ⟨Bn, 0, none⟩ = some v) ∧ ∀ (b : Nat) (cs : Array Value), Bn ≤ b → W.heap[b]? = some (.cells cs 24 (0, 0)) → cs.size = 5 → W'.heap[b]? = some (.cells cs 24 (0, 0))
theorem keepTok_t {Bn : Nat} {v : Value} {A B C : World} (h : KeepTok Bn v A B) (k : KeepTok Bn v B C) : KeepTok Bn v A C := ⟨fun x => k.1 (h.1 x), fun b cs hb h1 h2 => k.2 b cs hb (h.2 b cs hb h1 h2) h2⟩
theorem keepTok_b {Bn : Nat} {v : Value} (n : Nat) (W : World) (l : Nat) (o o' : Obj) (_ : n ≤ l) (ho : W.heap[l]? = some o) (hc : o.isCells = false) (_ : o.isWalk = false) : KeepTok Bn v W (W.putObj l o') :=
  ⟨fun h => cell_kept h (grownBy_putObj' W l o') (fun r e => by cases e; exact ⟨o, ho, hc⟩), fun b cs _ h1 _ => ((grownBy_putObj' W l o').block b (Array.getElem?_eq_some_iff.1 h1).1 (fun e => by cases e; rw [ho] at h1; cases h1; simp [Obj.isCells] at hc)).trans h1⟩
theorem next_f {t : ByteArray} (hs : t.size ≤ 35184372080000) (a : Int) : lex_Next.f t a = some (nextP t a) := by unfold lex_Next.f; rw [if_pos hs]
set_option maxRecDepth 100000 in
set_option maxHeartbeats 2000000 in
theorem lex_All1 (n : Nat) (hn : 1 ≤ n) (l Bn : Nat) (k : Nat) (t : ByteArray) (hs : t.size ≤ 35184372080000) (xs : List S24) (en : Int × Int) (hx : lexL t k 0 = some (xs, en)) (J Jx : List S24 → World → Prop) (B : Nat) (hJ : AbidesFrom B J)
    (hY : ∀ pre x W, J pre W → pre.length < xs.length → YieldAt Fence.wide (n - 1) Try.prog l (encTok x) W fun e W' =>
      (e = .returned (.bool true) ∧ J (pre ++ [x]) W' ∧ KeepTok Bn (.string t) W W') ∨ (e = .returned (.bool false) ∧ Jx (pre ++ [x]) W'))
    (W : World) (hBn : W.cell? ⟨Bn, 0, none⟩ = some (.string t)) (h0 : J [] W) :
    CallsIn Fence.wide n Try.prog 24 #[.func (.yield l) #[] #[], .pointer (some ⟨Bn, 0, none⟩)] W fun e W' => (∃ v, e = .returned v) ∧
      ((∃ ys, ys = xs ∧ J ys W') ∨ (∃ pre, pre <+: xs ∧ Jx pre W')) := by
  refine callsIn_of_wp Try.func24 rfl trivial ?_ rfl
  simp only [Try.ntmps24, List.size_toArray, List.length_cons, List.length_nil, Nat.reduceAdd, Nat.reduceSub, Array.replicate_succ, Array.replicate_zero, List.push_toArray, List.append_toArray, List.nil_append, List.cons_append]
  gi_wp2
  gi_loopw [3, 4, 5] (fun p3 p4 p5 wr => ∃ (at_ : Int) (pre rest : List S24) (k1 : Nat), p3 = .int .i64 at_ ∧ xs = pre ++ rest ∧ Aside0 (lexL t k1 at_ = some (rest, en)) ∧ wr.cell? ⟨Bn, 0, none⟩ = some (.string t) ∧ J pre wr)
    (fun p3 p4 p5 wr => ((t.size : Int) - intOf p3).toNat)
  case atStart =>
    exact ⟨0, [], xs, k, rfl, rfl, ⟨hx⟩, hBn, h0⟩
  case round =>
    obtain ⟨at_, pre, rest, k1, rfl, hxs, HA, hc, hJs⟩ := hrel
    have H := HA.out
    cases k1 with
    | zero => simp [lexL] at H
    | succ k1 =>
      unfold lexL at H
      cases hN : nextP t at_ with
      | mk kd y =>
      obtain ⟨f, b, nn, s, e⟩ := y
      rw [hN] at H
      simp only at H
      have A1 : Aside0 (lex_Next.f t at_ = some (kd, f, b, nn, s, e)) := ⟨by rw [next_f hs, hN]⟩
      by_cases c1 : e = 0
      · subst c1
        rw [if_pos rfl] at H
        have hp := next_place hN
        by_cases c2 : kd = 12
        · rw [if_pos c2] at H
          have c2b : (kd == 12) = true := by simp [c2]
          have c2h := Aside0.mk c2
          clear c2
          simp only [Option.some.injEq, Prod.mk.injEq] at H
          obtain ⟨rfl, H⟩ := H
          have H' := Aside0.mk H
          clear H HA
          have hN' := Aside0.mk hN
          clear hN
          have c3 := Aside0.mk hp
          clear hp
          gi_wp2_with (refine ⟨trivial, ?_⟩; gi_at_call 7; refine (callsIn_wide.2 (lex_Next.calls t _ kd f b nn s 0 _ A1.out)).mono ?_; rintro e w1 ⟨rfl, hb⟩; have hJ1 := hJ _ _ _ none hJs ⟨hb.os, hb.tape, hb.output, hb.size, fun k hk _ => hb.block k hk⟩ (fun r e => by cases e); have hc1 := (hb.cell (p := ⟨Bn, 0, none⟩) (World.block_lt_of_cell? _ _ hc)).trans hc; have hJ2 := hJ _ _ _ none hJ1 (World.grownBy_alloc w1 (.cells #[.int .i64 kd, .int .i64 f, .int .i64 b, .int .i64 nn, .string s] 24) none) (fun r e => by cases e); have hc2 := boxv_cell (.cells #[.int .i64 kd, .int .i64 f, .int .i64 b, .int .i64 nn, .string s] 24) hc1; obtain ⟨fn, tmps, assign, body, hy, hR⟩ := hY pre ⟨kd, f, b, nn, s⟩ _ hJ2 (by rw [hxs]; simp); dsimp only [encTok, tokW] at hy)
          refine hR.mono ?_
          rintro e W3 (⟨rfl, hJ3, hk3⟩ | ⟨rfl, hJx3⟩)
          · have hc3 : W3.cell? ⟨Bn, 0, none⟩ = some (.string t) := hk3.1 hc2
            have hT := hk3.2 w1.heap.size _ (Nat.le_of_lt (World.block_lt_of_cell? _ _ hc1)) (blk_new w1 _) rfl
            have t0 : W3.cell? ⟨w1.heap.size, 0, none⟩ = some (.int .i64 kd) := (blk_cell hT 0).trans rfl
            have t2 : W3.cell? ⟨w1.heap.size, 2, none⟩ = some (.int .i64 b) := (blk_cell hT 2).trans rfl
            clear hT
            gi_wp2
            refine bodyPost_ret (results_none rfl _ _ _) rfl ?_
            exact ⟨⟨_, rfl⟩, .inl ⟨pre ++ [⟨kd, f, b, nn, s⟩], by simp [hxs], hJ3⟩⟩
          · gi_wp2
            refine bodyPost_ret (results_none rfl _ _ _) rfl ?_
            exact ⟨⟨_, rfl⟩, .inr ⟨pre ++ [⟨kd, f, b, nn, s⟩], by simp [hxs], hJx3⟩⟩
        · rw [if_neg c2] at H
          replace hp : at_ < b ∧ b ≤ (t.size : Int) := by omega
          have c2b : (kd == 12) = false := by simp [c2]
          clear c2
          obtain ⟨⟨rest', en'⟩, H2, e2⟩ := Option.map_eq_some_iff.1 H
          simp only [Prod.mk.injEq] at e2
          obtain ⟨rfl, rfl⟩ := e2
          have H' := Aside0.mk H2
          clear H H2 HA
          have hN' := Aside0.mk hN
          clear hN
          have c3 := Aside0.mk hp
          clear hp
          gi_wp2_with (refine ⟨trivial, ?_⟩; gi_at_call 7; refine (callsIn_wide.2 (lex_Next.calls t _ kd f b nn s 0 _ A1.out)).mono ?_; rintro e w1 ⟨rfl, hb⟩; have hJ1 := hJ _ _ _ none hJs ⟨hb.os, hb.tape, hb.output, hb.size, fun k hk _ => hb.block k hk⟩ (fun r e => by cases e); have hc1 := (hb.cell (p := ⟨Bn, 0, none⟩) (World.block_lt_of_cell? _ _ hc)).trans hc; have hJ2 := hJ _ _ _ none hJ1 (World.grownBy_alloc w1 (.cells #[.int .i64 kd, .int .i64 f, .int .i64 b, .int .i64 nn, .string s] 24) none) (fun r e => by cases e); have hc2 := boxv_cell (.cells #[.int .i64 kd, .int .i64 f, .int .i64 b, .int .i64 nn, .string s] 24) hc1; obtain ⟨fn, tmps, assign, body, hy, hR⟩ := hY pre ⟨kd, f, b, nn, s⟩ _ hJ2 (by rw [hxs]; simp); dsimp only [encTok, tokW] at hy)
          refine hR.mono ?_
          rintro e W3 (⟨rfl, hJ3, hk3⟩ | ⟨rfl, hJx3⟩)
          · have hc3 : W3.cell? ⟨Bn, 0, none⟩ = some (.string t) := hk3.1 hc2
            have hT := hk3.2 w1.heap.size _ (Nat.le_of_lt (World.block_lt_of_cell? _ _ hc1)) (blk_new w1 _) rfl
            have t0 : W3.cell? ⟨w1.heap.size, 0, none⟩ = some (.int .i64 kd) := (blk_cell hT 0).trans rfl
            have t2 : W3.cell? ⟨w1.heap.size, 2, none⟩ = some (.int .i64 b) := (blk_cell hT 2).trans rfl
            clear hT
            gi_wp2
            go_roundw
            case rel => exact ⟨_, pre ++ [⟨kd, f, b, nn, s⟩], rest', k1, rfl, by simp [hxs], H', hc3, hJ3⟩
            case measure => have := c3.out; simp [intOf]; omega
          · gi_wp2
            refine bodyPost_ret (results_none rfl _ _ _) rfl ?_
            exact ⟨⟨_, rfl⟩, .inr ⟨pre ++ [⟨kd, f, b, nn, s⟩], ⟨rest', by simp [hxs]⟩, hJx3⟩⟩
      · rw [if_neg c1] at H
        have c1b : (e != 0) = true := by simp [c1]
        have c1c : (e == 0) = false := by simp [c1]
        clear c1
        simp only [Option.some.injEq, Prod.mk.injEq] at H
        obtain ⟨rfl, H⟩ := H
        have H' := Aside0.mk H
        clear H HA
        have hN' := Aside0.mk hN
        clear hN
        gi_wp2_with (refine ⟨trivial, ?_⟩; gi_at_call 7; refine (callsIn_wide.2 (lex_Next.calls t _ kd f b nn s e _ A1.out)).mono ?_; rintro e w1 ⟨rfl, hb⟩; have hJ1 := hJ _ _ _ none hJs ⟨hb.os, hb.tape, hb.output, hb.size, fun k hk _ => hb.block k hk⟩ (fun r e => by cases e); have hc1 := (hb.cell (p := ⟨Bn, 0, none⟩) (World.block_lt_of_cell? _ _ hc)).trans hc; have hJ2 := hJ _ _ _ none hJ1 (World.grownBy_alloc w1 (.cells #[.int .i64 kd, .int .i64 f, .int .i64 b, .int .i64 nn, .string s] 24) none) (fun r e => by cases e))
        refine ⟨fun _ h => (by cases h), ?_⟩
        gi_wp2
        refine bodyPost_ret (results_none rfl _ _ _) rfl ?_
        exact ⟨⟨_, rfl⟩, .inl ⟨pre, by simp [hxs], hJ2⟩⟩
theorem lex_All_stops (n : Nat) (hn : 1 ≤ n) (Bn : Nat) (k : Nat) (t : ByteArray) (hs : t.size ≤ 35184372080000) (xs : List S24) (en : Int × Int) (hx : lexL t k 0 = some (xs, en)) (w : World) (hBn : Bn < w.heap.size)
    (hc : w.cell? ⟨Bn, 0, none⟩ = some (.string t)) :
    SeqStopsK Fence.wide n Try.prog 24 #[.pointer (some ⟨Bn, 0, none⟩)] encTok (KeepTok Bn (.string t)) (fun ys => ys = xs) (fun pre => pre <+: xs) xs.length w := fun l J Jx W hW hJ _ hY h0 =>
  lex_All1 n hn l Bn k t hs xs en hx J Jx _ hJ hY W ((hW.cell (p := ⟨Bn, 0, none⟩) hBn).trans hc) h0
theorem lex_All_in (n : Nat) (t : ByteArray) (w : World) :
    CallsIn Fence.wide n Try.prog 11 #[.string t] w fun e w' => e = .returned (.func (.func 24) #[] #[.pointer (some ⟨w.heap.size, 0, none⟩)]) ∧ w' = w.alloc (.cells #[.string t] 9) := by
  refine callsIn_of_wp Try.func11 rfl trivial ?_ rfl
  simp only [Try.ntmps11, List.size_toArray, List.length_cons, List.length_nil, Nat.reduceAdd, Nat.reduceSub, Array.replicate_succ, Array.replicate_zero, List.push_toArray, List.append_toArray, List.nil_append, List.cons_append]
  gi_wp2
  go_ret
  exact ⟨rfl, rfl⟩
end Go.Proofs.Ytjdgjifacdnkgaa.X
end
section
namespace Go.Proofs.Ytjdgjifacdnkgaa.X
open Go.RowKit Go.Shelf Go.Proofs.YtjdgjifacdnkgaaW.PrintWords
set_option linter.unusedVariables false
set_option linter.unusedSimpArgs false
theorem run_append_keep {P : Program} (w : World) (base : Nat) (t ty e : TypeId) (i : TypeInfo) (z : Value) (size bytes : Nat) (h1 : P.underlying t = some (.slice e)) (h2 : P.info? e = some i) (h3 : i.zero = some z) (h4 : i.size = size) (h5 : i.bytes = bytes) (h6 : z.cells.size = size) (h7 : 0 < size)
    (v : Value) (k : Nat) (xs : List Value) (hown : w.ownsRow base e size v k xs) (hk : v = .slice none 0 0 ∨ 1 ≤ k) (ad : Addr) (c : Nat) (news : List Value) (hn : news.length = size)
    (hc : ∀ j u, news[j]? = some u → w.cell? (ad.add j) = some u) (h1c : ∀ u ∈ news, u.oneCell' = true) (b1 : k + 1 ≤ maxLen) (b2 : (k + 1) * bytes ≤ 140737488355328) (b3 : base ≤ w.heap.size) :
    ∃ v' w', (Builtin.append_ #[t, t] ty #[v, .slice (some ad) 1 c]).run P w = .ok v' w' ∧ w'.ownsRow base e size v' (k + 1) (xs ++ news) ∧ w.grownBy w' v.ownBlock ∧
      ∀ (b : Nat) (cs : Array Value), w.heap[b]? = some (.cells cs e (0, 0)) → cs.size = size → w'.heap[b]? = some (.cells cs e (0, 0)) := by
  obtain ⟨v', w', hr, ho, hg, _⟩ := run_append_own (P := P) w base t ty e i z size bytes h1 h2 h3 h4 h5 h6 h7 v k xs hown ad 1 c news (by simpa using hn) hc h1c b1 b2 b3
  refine ⟨v', w', hr, ho, hg, fun b cs hb hs => ?_⟩
  rcases hown.2 with ⟨hv, _⟩ | ⟨g, cap, cur, hv, hbg, hgb, hnc, hcm, hcs, htake⟩
  · subst hv
    exact (hg.block b (blk_lt hb) (by simp [Value.ownBlock])).trans hb
  · by_cases hbg2 : b = g
    · subst hbg2
      rw [hgb] at hb
      cases hb
      subst hv
      by_cases hroom : k + 1 ≤ cap
      · exfalso
        rcases hk with hk | hk
        · cases hk
        · rw [hcs] at hs
          have : 2 * size ≤ cap * size := Nat.mul_le_mul_right _ (by omega)
          omega
      · obtain ⟨v2, w2, hr2, _, hg2⟩ := run_append_arg_grows (P := P) w t ty e i z size bytes h1 h2 h3 h4 h5 h6 h7 ⟨b, 0, none⟩ k cap xs hown.1 (fun j u hj => hown.cells (g := b) rfl j u hj) ad 1 c news (by simpa using hn) hc (by omega) b1 b2
        rw [hr] at hr2
        cases hr2
        exact (hg2.block b (blk_lt hgb) (by simp)).trans hgb
    · exact (hg.block b (blk_lt hb) (by subst hv; simp [Value.ownBlock]; exact hbg2)).trans hb
theorem wpListIn_append_keep {F : Fence} {n : Nat} {P : Program} (w : World) {ops : Array Oper} {rest : List Oper} {o : Oper} {a : Act} {Q : Exit → Act → World → Prop}
    (hg : o.guard = none) (s x : Operand) (t : TypeId) (hop : o.op = Op.call { callee := Callee.builtin Builtin.append, args := #[s, x], argTypes := #[t, t] })
    (base : Nat) (e : TypeId) (i : TypeInfo) (z : Value) (size bytes : Nat) (h1 : P.underlying t = some (.slice e)) (h2 : P.info? e = some i) (h3 : i.zero = some z) (h4 : i.size = size) (h5 : i.bytes = bytes) (h6 : z.cells.size = size) (h7 : 0 < size)
    (v : Value) (k : Nat) (xs : List Value) (hs : a.eval s = v) (hown : w.ownsRow base e size v k xs) (hk : v = .slice none 0 0 ∨ 1 ≤ k) (ad : Addr) (c : Nat) (news : List Value) (hx : a.eval x = .slice (some ad) 1 c) (hn : news.length = size)
    (hc : ∀ j u, news[j]? = some u → w.cell? (ad.add j) = some u) (h1c : ∀ u ∈ news, u.oneCell' = true) (b1 : k + 1 ≤ maxLen) (b2 : (k + 1) * bytes ≤ 140737488355328) (b3 : base ≤ w.heap.size)
    (hK : ∀ v' w', w'.ownsRow base e size v' (k + 1) (xs ++ news) → w.grownBy w' v.ownBlock → (∀ (b : Nat) (cs : Array Value), w.heap[b]? = some (.cells cs e (0, 0)) → cs.size = size → w'.heap[b]? = some (.cells cs e (0, 0))) → wpListIn F n P ops Q rest (a.put o.dst v') w') :
    wpListIn F n P ops Q (o :: rest) a w := by
  refine wpListIn_plain hg fun K hK' => ?_
  obtain ⟨v', w', hrun, r1, r2, r3⟩ := run_append_keep (P := P) w base t o.type e i z size bytes h1 h2 h3 h4 h5 h6 h7 v k xs hown hk ad c news hn hc h1c b1 b2 b3
  unfold Oper.wpIn
  refine ⟨?_, ?_⟩
  · simp [Oper.about, hop, resolve, Target.leads, Sem.run_pure]
  · rw [Oper.semAt_plain F _ _ (by rw [hop]; intro c hc'; cases hc')]
    simp [execOp, hop, resolve, invoke, builtin, hs, hx, hrun, Result.andThen]
    exact hK' _ _ (hK v' w' r1 r2 r3)
end Go.Proofs.Ytjdgjifacdnkgaa.X
end
section
namespace Go.Proofs.Ytjdgjifacdnkgaa.X
open Go.RowKit Go.Shelf Go.Proofs.YtjdgjifacdnkgaaW.PrintWords
attribute [local go_sem] Oper.semAt_some
set_option linter.unusedVariables false
set_option linter.unusedSimpArgs false
theorem lexL_len (t : ByteArray) : ∀ (k : Nat) (a : Int) (xs : List S24) (en : Int × Int), lexL t k a = some (xs, en) → (xs.length : Int) ≤ (t.size : Int) - a + 1 ∨ xs = []
  | 0, a, xs, en, h => by simp [lexL] at h
  | k + 1, a, xs, en, h => by
    unfold lexL at h
    cases hN : nextP t a with
    | mk kd y =>
    obtain ⟨f, b, nn, s, e⟩ := y
    rw [hN] at h
    simp only at h
    by_cases c1 : e = 0
    · subst c1
      rw [if_pos rfl] at h
      have hp := next_place hN
      by_cases c2 : kd = 12
      · rw [if_pos c2] at h
        simp only [Option.some.injEq, Prod.mk.injEq] at h
        obtain ⟨rfl, h⟩ := h
        left
        simp only [List.length_singleton]
        omega
      · rw [if_neg c2] at h
        obtain ⟨⟨ys, en'⟩, H2, e2⟩ := Option.map_eq_some_iff.1 h
        simp only [Prod.mk.injEq] at e2
        obtain ⟨rfl, rfl⟩ := e2
        left
        rcases lexL_len t k b ys en' H2 with h3 | h3
        · simp only [List.length_cons]; omega
        · subst h3; simp only [List.length_cons, List.length_nil]; omega
    · rw [if_neg c1] at h
      simp only [Option.some.injEq, Prod.mk.injEq] at h
      exact .inr h.1.symm
theorem lexL_some (t : ByteArray) : ∀ (k : Nat) (a : Int), (t.size : Int) - a < k → 0 < k → (lexL t k a).isSome = true
  | 0, a, h, h0 => by omega
  | k + 1, a, h, h0 => by
    unfold lexL
    cases hN : nextP t a with
    | mk kd y =>
    obtain ⟨f, b, nn, s, e⟩ := y
    simp only
    by_cases c1 : e = 0
    · subst c1
      rw [if_pos rfl]
      have hp := next_place hN
      by_cases c2 : kd = 12
      · rw [if_pos c2]; rfl
      · rw [if_neg c2, Option.isSome_map]
        exact lexL_some t k b (by omega) (by omega)
    · rw [if_neg c1]; rfl
def lex_Tokens.f (t : ByteArray) : Option (List S24 × Int × Int) :=
  if t.size ≤ 1000000000 then (lexL t (t.size + 2) 0).map fun y => if y.2.2 = 0 then (y.1, 0, 0) else ([], y.2.1, y.2.2) else none
def tkc (x : S24) : List Value := [.int .i64 x.f0, .int .i64 x.f1, .int .i64 x.f2, .int .i64 x.f3, .string x.f4]
def flat (xs : List S24) : List Value := xs.flatMap tkc
theorem flat_snoc (xs : List S24) (x : S24) : flat (xs ++ [x]) = flat xs ++ tkc x := by simp [flat]
theorem tkR_go {w : World} {base : Nat} {ok : Nat → Prop} : ∀ (l acc : List S24), Reps (k24.M w base ok) 5 acc (flat acc) → Reps (k24.M w base ok) 5 (acc ++ l) (flat (acc ++ l))
  | [], acc, h => by simpa using h
  | x :: l, acc, h => by
    have := tkR_go l (acc ++ [x]) (by rw [flat_snoc]; exact Reps.snoc h (k24_mkM w base ok x) rfl)
    simpa using this
theorem tkR {w : World} {base : Nat} {ok : Nat → Prop} (xs : List S24) : Reps (k24.M w base ok) 5 xs (flat xs) := tkR_go xs [] (Reps.none _ _)
theorem R_flat {w : World} {base : Nat} {v : Value} {xs : List S24} (h : w.ownsRow base 24 5 v xs.length (flat xs)) : Kd.R k24 24 w base (fun _ => True) v xs :=
  ⟨fun _ _ => trivial, flat xs, h, tkR xs⟩
def endFrom (a : Int) : List S24 → Int
  | [] => a
  | x :: l => endFrom x.f2 l
theorem endFrom_snoc (x : S24) : ∀ (a : Int) (l : List S24), endFrom a (l ++ [x]) = x.f2
  | a, [] => rfl
  | a, y :: l => endFrom_snoc x y.f2 l
def tkEnd (l : List S24) : Int := endFrom 0 l
theorem tkEnd_snoc (l : List S24) (x : S24) : tkEnd (l ++ [x]) = x.f2 := endFrom_snoc x 0 l
structure TkI (w : World) (pre : List S24) (W : World) : Prop where
  v : ∃ v, W.heap[w.heap.size]? = some (.cells #[v] 31 (0, 0)) ∧ W.ownsRow (w.heap.size + 3) 24 5 v pre.length (flat pre) ∧ (v = .slice none 0 0 ∨ 1 ≤ pre.length)
  a : W.heap[w.heap.size + 1]? = some (.cells #[.int .i64 (tkEnd pre)] 3 (0, 0))
  B : Below w.heap.size w W
  z : w.heap.size + 3 ≤ W.heap.size
theorem TkI.own (w : World) (B : Nat) (hB : w.heap.size + 3 ≤ B) : OwnFrom B (TkI w) := by
  intro pre W W' row h hg hr
  obtain ⟨⟨v, h1, h2, h3⟩, ha, hb, hz⟩ := h
  have far : ∀ (b : Nat) (cs : Array Value) (t : TypeId), W.heap[b]? = some (.cells cs t (0, 0)) → W'.heap[b]? = some (.cells cs t (0, 0)) := fun b cs t hbk =>
    (hg.block b (blk_lt hbk) (fun e => by obtain ⟨_, o, ho, hc⟩ := hr b e.symm; rw [hbk] at ho; cases ho; simp [Obj.isCells] at hc)).trans hbk
  refine ⟨⟨v, far _ _ _ h1, ?_, h3⟩, far _ _ _ ha, hb.grown hg hb.size (fun k e => by have := (hr k e).1; omega), by have := hg.size; omega⟩
  obtain ⟨h4, h5⟩ := h2
  refine ⟨h4, ?_⟩
  rcases h5 with h5 | ⟨g, cap, cur, e1, e2, e3, e4⟩
  · exact .inl h5
  · exact .inr ⟨g, cap, cur, e1, e2, far _ _ _ e3, e4⟩
theorem TkI.start (w : World) (t : ByteArray) : TkI w [] (((w.alloc (.cells #[.slice none 0 0] 31)).alloc (.cells #[.int .i64 0] 3)).alloc (.cells #[.string t] 9)) := by
  have h1 := blk_new w (.cells #[.slice none 0 0] 31)
  have h2 := blk_new (w.alloc (.cells #[.slice none 0 0] 31)) (.cells #[.int .i64 0] 3)
  rw [World.size_alloc] at h2
  refine ⟨⟨.slice none 0 0, ?_, ⟨rfl, .inl ⟨rfl, rfl⟩⟩, .inl rfl⟩, ?_, (((Below.refl _ w).alloc (Nat.le_refl _) _).alloc (by simp) _).alloc (by simp; omega) _, by simp⟩
  · rw [Below.heap_alloc _ _ _ (by simp; omega), Below.heap_alloc _ _ _ (by simp)]; exact h1
  · rw [Below.heap_alloc _ _ _ (by simp)]; exact h2
theorem lexL_last (t : ByteArray) : ∀ (k : Nat) (a : Int) (xs : List S24) (f en : Int), lexL t k a = some (xs, f, en) →
    (en = 0 → ∃ pre x, xs = pre ++ [x] ∧ x.f0 = 12) ∧ (en ≠ 0 → (∀ x ∈ xs, x.f0 ≠ 12) ∧ ∃ kd b n s, nextP t (endFrom a xs) = (kd, f, b, n, s, en))
  | 0, a, xs, f, en, h => by simp [lexL] at h
  | k + 1, a, xs, f, en, h => by
    unfold lexL at h
    cases hN : nextP t a with
    | mk kd y =>
    obtain ⟨f', b, nn, s, e⟩ := y
    rw [hN] at h
    simp only at h
    by_cases c1 : e = 0
    · subst c1
      rw [if_pos rfl] at h
      by_cases c2 : kd = 12
      · rw [if_pos c2] at h
        simp only [Option.some.injEq, Prod.mk.injEq] at h
        obtain ⟨rfl, rfl, rfl⟩ := h
        exact ⟨fun _ => ⟨[], _, rfl, c2⟩, fun h => absurd rfl h⟩
      · rw [if_neg c2] at h
        obtain ⟨⟨ys, f2, en'⟩, H2, e2⟩ := Option.map_eq_some_iff.1 h
        simp only [Prod.mk.injEq] at e2
        obtain ⟨rfl, rfl, rfl⟩ := e2
        obtain ⟨g1, g2⟩ := lexL_last t k b ys f2 en' H2
        refine ⟨fun h0 => ?_, fun h0 => ⟨?_, (g2 h0).2⟩⟩
        · obtain ⟨pre, x, rfl, hx⟩ := g1 h0
          exact ⟨_ :: pre, x, rfl, hx⟩
        · intro x hx
          rcases List.mem_cons.1 hx with rfl | hx
          · exact c2
          · exact (g2 h0).1 x hx
    · rw [if_neg c1] at h
      simp only [Option.some.injEq, Prod.mk.injEq] at h
      obtain ⟨rfl, rfl, rfl⟩ := h
      exact ⟨fun h => absurd h c1, fun _ => ⟨(fun x hx => by cases hx), kd, b, nn, s, hN⟩⟩
theorem cell_add0 (W : World) (g j : Nat) : W.cell? ((⟨g, 0, none⟩ : Addr).add j) = W.cell? ⟨g, j, none⟩ := by
  congr 1
  unfold Addr.add
  split <;> simp_all
theorem keeps_below {W W1 : World} (h : Below W.heap.size W W1) : KeepsOthers W W1 :=
  ⟨h.size, fun k o hk _ => by have hlt := (Array.getElem?_eq_some_iff.1 hk).1; rw [h.block k hlt]; exact hk⟩
theorem keepTok_below {Bn : Nat} {v : Value} {W W1 : World} (h : Below W.heap.size W W1) : KeepTok Bn v W W1 :=
  ⟨fun hc => (h.cell (p := ⟨Bn, 0, none⟩) (World.block_lt_of_cell? _ _ hc)).trans hc, fun b cs _ h1 _ => (h.block b (blk_lt h1)).trans h1⟩
theorem tok_fresh {W w1 : World} (hb : Below W.heap.size W w1) (kd f b nn : Int) (s : ByteArray) : Below W.heap.size W (w1.alloc (.cells #[.int .i64 kd, .int .i64 f, .int .i64 b, .int .i64 nn, .string s] 24)).drew :=
  below_drew (below_alloc hb _)
theorem tok_kept {W w1 : World} {D : Nat} {o : Obj} (h : W.heap[D]? = some o) (hb : Below W.heap.size W w1) (kd f b nn : Int) (s : ByteArray) :
    (w1.alloc (.cells #[.int .i64 kd, .int .i64 f, .int .i64 b, .int .i64 nn, .string s] 24)).drew.heap[D]? = some o :=
  ((tok_fresh hb kd f b nn s).block D (blk_lt h)).trans h
theorem TkI.step {w W W1 : World} {pre : List S24} {x : S24} {W2 : World} {v v' : Value} (h : TkI w pre W) (hv : W.heap[w.heap.size]? = some (.cells #[v] 31 (0, 0))) (ho : W.ownsRow (w.heap.size + 3) 24 5 v pre.length (flat pre))
    (ho' : W1.ownsRow (w.heap.size + 3) 24 5 v' (pre.length + 1) (flat pre ++ tkc x)) (hb : Below W.heap.size W W2) (hg : W2.grownBy W1 v.ownBlock) :
    TkI w (pre ++ [x]) ((W1.setCell ⟨w.heap.size, 0, none⟩ v').setCell ⟨w.heap.size + 1, 0, none⟩ (.int .i64 x.f2)) := by
  obtain ⟨_, ha, hB, hz⟩ := h
  have hne : ∀ b, v.ownBlock = some b → w.heap.size + 3 ≤ b := own_base ho
  have f1 : W1.heap[w.heap.size]? = some (.cells #[v] 31 (0, 0)) := (hg.block _ (by have := hb.size; omega) (fun e => by have := hne _ e.symm; omega)).trans ((hb.block _ (by omega)).trans hv)
  have f2 : W1.heap[w.heap.size + 1]? = some (.cells #[.int .i64 (tkEnd pre)] 3 (0, 0)) := (hg.block _ (by have := hb.size; omega) (fun e => by have := hne _ e.symm; omega)).trans ((hb.block _ (by omega)).trans ha)
  have f3 : (W1.setCell ⟨w.heap.size, 0, none⟩ v').heap[w.heap.size]? = some (.cells #[v'] 31 (0, 0)) := blk_put f1 0 v' rfl
  have f4 : (W1.setCell ⟨w.heap.size, 0, none⟩ v').heap[w.heap.size + 1]? = some (.cells #[.int .i64 (tkEnd pre)] 3 (0, 0)) := (Below.heap_setCell _ _ _ _ (by simp)).trans f2
  have hne' : ∀ b, v'.ownBlock = some b → w.heap.size + 3 ≤ b := own_base ho'
  refine ⟨⟨v', (Below.heap_setCell _ _ _ _ (by simp)).trans f3, ?_, .inr (by simp)⟩, ?_, ?_, ?_⟩
  · rw [flat_snoc, List.length_append, List.length_singleton]
    exact own_move ho' (fun k hk => by have := hne' k hk; rw [Below.heap_setCell _ _ _ _ (by simp; omega), Below.heap_setCell _ _ _ _ (by simp; omega)])
  · rw [tkEnd_snoc]
    exact blk_put f4 0 _ rfl
  · exact below_set (below_set (below_then hB hB.size hb |>.grown hg (by have := hB.size; have := hb.size; omega) (fun k e => by have := hne k e; omega)) (Nat.le_refl _)) (by simp)
  · have := hb.size; have := hg.size; simp [World.setCell]; omega
structure TokStep (w : World) (W : World) (a0 : ByteArray) (pre : List S24) (x : S24) (b : Nat) (v v' : Value) (w1 : World) : Prop where
  d0 : w1.cell? ⟨w.heap.size, 0, none⟩ = some v
  e0 : w1.frozen? ⟨w.heap.size, 0, none⟩ = false
  d1 : (w1.setCell ⟨w.heap.size, 0, none⟩ v').cell? ⟨w.heap.size + 1, 0, none⟩ = some (.int .i64 (tkEnd pre))
  e1 : w1.frozen? ⟨w.heap.size + 1, 0, none⟩ = false
  t2 : (w1.setCell ⟨w.heap.size, 0, none⟩ v').cell? ⟨b, 2, none⟩ = some (.int .i64 x.f2)
  fin : KeepsFrom (w.heap.size + 3) W ((w1.setCell ⟨w.heap.size, 0, none⟩ v').setCell ⟨w.heap.size + 1, 0, none⟩ (.int .i64 x.f2)) ∧
    KeepTok (w.heap.size + 1 + 1) (.string a0) W ((w1.setCell ⟨w.heap.size, 0, none⟩ v').setCell ⟨w.heap.size + 1, 0, none⟩ (.int .i64 x.f2)) ∧
    TkI w (pre ++ [x]) ((w1.setCell ⟨w.heap.size, 0, none⟩ v').setCell ⟨w.heap.size + 1, 0, none⟩ (.int .i64 x.f2))
theorem tok_step {w W W2 w1 : World} {a0 : ByteArray} {pre : List S24} {x : S24} {b : Nat} {v v' : Value} (hI : TkI w pre W) (hv : W.heap[w.heap.size]? = some (.cells #[v] 31 (0, 0)))
    (ho : W.ownsRow (w.heap.size + 3) 24 5 v pre.length (flat pre)) (hbb : W.heap[b]? = some (.cells #[.int .i64 x.f0, .int .i64 x.f1, .int .i64 x.f2, .int .i64 x.f3, .string x.f4] 24 (0, 0))) (hbz : w.heap.size + 3 ≤ b)
    (hk : v = .slice none 0 0 ∨ 1 ≤ pre.length) (hb : Below W.heap.size W W2) (ho' : w1.ownsRow (w.heap.size + 3) 24 5 v' (pre.length + 1) (flat pre ++ tkc x)) (hg : W2.grownBy w1 v.ownBlock)
    (hk' : ∀ (b : Nat) (cs : Array Value), W2.heap[b]? = some (.cells cs 24 (0, 0)) → cs.size = 5 → w1.heap[b]? = some (.cells cs 24 (0, 0))) : TokStep w W a0 pre x b v v' w1 := by
  have hz := hI.z
  have hne : ∀ b, v.ownBlock = some b → w.heap.size + 3 ≤ b := own_base ho
  have f1 : w1.heap[w.heap.size]? = some (.cells #[v] 31 (0, 0)) := (hg.block _ (by have := hb.size; omega) (fun e => by have := hne _ e.symm; omega)).trans ((hb.block _ (by omega)).trans hv)
  have f2 : w1.heap[w.heap.size + 1]? = some (.cells #[.int .i64 (tkEnd pre)] 3 (0, 0)) := (hg.block _ (by have := hb.size; omega) (fun e => by have := hne _ e.symm; omega)).trans ((hb.block _ (by omega)).trans hI.a)
  have f4 : (w1.setCell ⟨w.heap.size, 0, none⟩ v').heap[w.heap.size + 1]? = some (.cells #[.int .i64 (tkEnd pre)] 3 (0, 0)) := (Below.heap_setCell _ _ _ _ (by simp)).trans f2
  have f5 : w1.heap[b]? = some (.cells #[.int .i64 x.f0, .int .i64 x.f1, .int .i64 x.f2, .int .i64 x.f3, .string x.f4] 24 (0, 0)) := hk' b _ ((hb.block _ (blk_lt hbb)).trans hbb) rfl
  have f6 : (w1.setCell ⟨w.heap.size, 0, none⟩ v').heap[b]? = some (.cells #[.int .i64 x.f0, .int .i64 x.f1, .int .i64 x.f2, .int .i64 x.f3, .string x.f4] 24 (0, 0)) := (Below.heap_setCell _ _ _ _ (by simp; omega)).trans f5
  refine ⟨(blk_cell f1 0).trans rfl, blk_frozen f1 0, (blk_cell f4 0).trans rfl, blk_frozen f2 0, (blk_cell f6 2).trans rfl, ⟨?_, ?_⟩, ⟨fun hc => ?_, ?_⟩, hI.step hv ho ho' hb hg⟩
  · have := hb.size; have := hg.size; simp [World.setCell]; omega
  · intro k o hk0 ho0 hoc
    have hkl := (Array.getElem?_eq_some_iff.1 ho0).1
    rw [Below.heap_setCell _ _ _ _ (by simp; omega), Below.heap_setCell _ _ _ _ (by simp; omega)]
    have h2 := (hb.block k hkl).trans ho0
    refine (hg.block k (by have := hb.size; omega) (fun e => ?_)).trans h2
    obtain ⟨cells, hcl⟩ := own_typed ho k e.symm
    rw [ho0] at hcl
    cases hcl
    simp [Obj.isCells] at hoc
  · have hcl := World.block_lt_of_cell? _ _ hc
    rw [World.cell?_setCell_other _ _ _ _ (fun e => by have := congrArg Addr.block e; simp at this), World.cell?_setCell_other _ _ _ _ (fun e => by have := congrArg Addr.block e; simp at this; omega)]
    have h2 := (hb.cell (p := ⟨w.heap.size + 1 + 1, 0, none⟩) hcl).trans hc
    unfold World.cell? at h2 ⊢
    rw [hg.block (w.heap.size + 1 + 1) (by have := hb.size; simp at hcl; omega) (fun e => by have := hne _ e.symm; omega)]
    exact h2
  · intro c cs hc0 hc1 hc2
    rw [Below.heap_setCell _ _ _ _ (by simp; omega), Below.heap_setCell _ _ _ _ (by simp; omega)]
    exact hk' c cs ((hb.block _ (blk_lt hc1)).trans hc1) hc2
set_option maxRecDepth 100000 in
set_option maxHeartbeats 4000000 in
theorem lex_Tokens.calls (a0 : ByteArray) (r1 : List S24) (r2 r3 : Int) (w : World) (h : lex_Tokens.f a0 = some (r1, r2, r3)) :
    Calls Try.prog 9 #[.string a0] w fun e w' => ∃ v0_ : Value, e = .returned (.tuple #[v0_, .int .i64 r2, .int .i64 r3]) ∧ Kd.R k24 24 w' w.heap.size (fun _ => True) v0_ r1 ∧ Below w.heap.size w w' := by
  unfold lex_Tokens.f at h
  by_cases hs : a0.size ≤ 1000000000
  case neg => rw [if_neg hs] at h; cases h
  rw [if_pos hs] at h
  obtain ⟨⟨xs, f, en⟩, hx, hr⟩ := Option.map_eq_some_iff.1 h
  have hl : xs.length ≤ a0.size + 1 := by
    rcases lexL_len _ _ _ _ _ hx with h | h
    · omega
    · subst h; simp
  have hlast := lexL_last _ _ _ _ _ _ hx
  clear h
  have hx := Aside0.mk hx
  have hr := Aside0.mk hr
  have hl := Aside0.mk hl
  have hlast := Aside0.mk hlast
  refine (callsIn_wide (n := 4)).1 ?_
  refine callsIn_of_wp_marks Try.func9 rfl trivial ?_ rfl
  simp only [Try.ntmps9, List.size_toArray, List.length_cons, List.length_nil, Nat.reduceAdd, Nat.reduceSub, Array.replicate_succ, Array.replicate_zero, List.push_toArray, List.append_toArray, List.nil_append, List.cons_append]
  gi_wp2_with (refine ⟨trivial, ?_⟩; gi_at_call 11; refine (lex_All_in _ _ _).mono ?_; rintro e w' ⟨rfl, rfl⟩)
  have hT0 := TkI.start w a0
  have hb := boxv ((w.alloc (.cells #[.slice none 0 0] 31)).alloc (.cells #[.int .i64 0] 3)) (.string a0) 9
  simp only [World.size_alloc] at hb
  have hW0 : ((((w.alloc (.cells #[.slice none 0 0] 31)).alloc (.cells #[.int .i64 0] 3)).alloc (.cells #[.string a0] 9))).heap.size = w.heap.size + 3 := by simp
  refine wpIn_rangeFunc_ownH rfl (by omega) (gf := 24) (lb := #[.pointer (some ⟨w.heap.size + 1 + 1, 0, none⟩)]) rfl trivial (enters_of Try.func24 (by kernel_rfl) rfl)
    (lex_All_stops _ (by omega) (w.heap.size + 1 + 1) (a0.size + 2) a0 (by omega) xs (f, en) hx.out _ (by simp) hb.1) keepTok_t (keepTok_b _) (Below.refl _ _) (fun _ => rfl)
    (fun pre W => TkI w pre W)
    (fun _ _ _ => False)
    (TkI.own w _ (by simp))
    (fun _ _ _ _ _ hs _ _ => hs)
    hT0
    (fun x a' W => ∃ b, w.heap.size + 3 ≤ b ∧ W.heap[b]? = some (.cells #[.int .i64 x.f0, .int .i64 x.f1, .int .i64 x.f2, .int .i64 x.f3, .string x.f4] 24 (0, 0)) ∧ a' = { tmps := #[.string a0, undef, .slice none 0 0, .int .i64 0, .int .i64 0, .pointer (some ⟨w.heap.size, 0, none⟩), .pointer (some ⟨w.heap.size + 1, 0, none⟩), .pointer (some ⟨b, 0, none⟩), undef, undef, .string a0, .func (.func 24) #[] #[.pointer (some ⟨w.heap.size + 1 + 1, 0, none⟩)], tokW x, undef, undef, undef, undef, undef, undef, undef, undef, undef, undef, undef, undef, undef, undef, undef, undef, undef, undef, undef, undef, undef, undef, undef, undef, undef, undef, undef, undef, undef], defers := [] })
    ?Ax ?assign ?body ?done ?stop
  case Ax =>
    rintro x a' _ W W' row ⟨b, h1, h2, h3⟩ hg hr
    exact ⟨b, h1, (hg.block b (blk_lt h2) (fun e => by obtain ⟨_, o, ho, hc⟩ := hr b e.symm; rw [h2] at ho; cases ho; simp [Obj.isCells] at hc)).trans h2, h3⟩
  case assign =>
    intro l pre x W K hI hK
    have hB := below_alloc (Below.refl W.heap.size W) (.cells #[.int .i64 x.f0, .int .i64 x.f1, .int .i64 x.f2, .int .i64 x.f3, .string x.f4] 24)
    have hKK := hK { tmps := #[.string a0, undef, .slice none 0 0, .int .i64 0, .int .i64 0, .pointer (some ⟨w.heap.size, 0, none⟩), .pointer (some ⟨w.heap.size + 1, 0, none⟩), .pointer (some ⟨W.heap.size, 0, none⟩), undef, undef, .string a0, .func (.func 24) #[] #[.pointer (some ⟨w.heap.size + 1 + 1, 0, none⟩)], tokW x, undef, undef, undef, undef, undef, undef, undef, undef, undef, undef, undef, undef, undef, undef, undef, undef, undef, undef, undef, undef, undef, undef, undef, undef, undef, undef, undef, undef, undef], defers := [] }
      (W.alloc (.cells #[.int .i64 x.f0, .int .i64 x.f1, .int .i64 x.f2, .int .i64 x.f3, .string x.f4] 24)) ((keeps_below hB).from _) (keepTok_below hB) (TkI.own w (w.heap.size + 3) (Nat.le_refl _) pre W _ none hI (World.grownBy_alloc W _ none) (fun r e => by cases e)) ⟨W.heap.size, hI.z, blk_new W _, rfl⟩
    have HK := Aside0.mk hKK
    clear hKK hK hB hI
    gi_wp2
    exact HK.out
  case body =>
    rintro l pre x a' W - - hI ⟨b, hbz, hbb, rfl⟩ hlen
    obtain ⟨v, hv, hown, hk⟩ := hI.v
    obtain ⟨A', cc', rfl⟩ := own_slice hown
    have ha := hI.a
    have hz := hI.z
    have c0 : W.cell? ⟨w.heap.size, 0, none⟩ = some (.slice A' pre.length cc') := (blk_cell hv 0).trans rfl
    have f0 : W.frozen? ⟨w.heap.size, 0, none⟩ = false := blk_frozen hv 0
    have c1 : W.cell? ⟨w.heap.size + 1, 0, none⟩ = some (.int .i64 (tkEnd pre)) := (blk_cell ha 0).trans rfl
    have f1 : W.frozen? ⟨w.heap.size + 1, 0, none⟩ = false := blk_frozen ha 0
    have x0 : W.cell? ⟨b, 0, none⟩ = some (.int .i64 x.f0) := (blk_cell hbb 0).trans rfl
    have x1 : W.cell? ⟨b, 1, none⟩ = some (.int .i64 x.f1) := (blk_cell hbb 1).trans rfl
    have x2 : W.cell? ⟨b, 2, none⟩ = some (.int .i64 x.f2) := (blk_cell hbb 2).trans rfl
    have x3 : W.cell? ⟨b, 3, none⟩ = some (.int .i64 x.f3) := (blk_cell hbb 3).trans rfl
    have x4 : W.cell? ⟨b, 4, none⟩ = some (.string x.f4) := (blk_cell hbb 4).trans rfl
    have hown := Aside0.mk hown
    have hk := Aside0.mk hk
    have hv := Aside0.mk hv
    have hI := Aside0.mk hI
    have hlen := Aside0.mk hlen
    have hbb := Aside0.mk hbb
    have hz' := Aside0.mk hz
    obtain ⟨i0, hi, hz0, hz1, hz2⟩ := info_parts info24
    have hlN := hl.out
    have hBa := below_alloc (Below.refl W.heap.size W) (.cells #[.int .i64 x.f0, .int .i64 x.f1, .int .i64 x.f2, .int .i64 x.f3, .string x.f4] 24)
    have hownA := pw_own_below hown.out hBa
    have hnb := blk_new W (.cells #[.int .i64 x.f0, .int .i64 x.f1, .int .i64 x.f2, .int .i64 x.f3, .string x.f4] 24)
    have hcx : ∀ j u, (tkc x)[j]? = some u → (W.alloc (.cells #[.int .i64 x.f0, .int .i64 x.f1, .int .i64 x.f2, .int .i64 x.f3, .string x.f4] 24)).cell? ((⟨W.heap.size, 0, none⟩ : Addr).add j) = some u := by
      intro j u hj
      rw [show ((⟨W.heap.size, 0, none⟩ : Addr).add j) = ⟨W.heap.size, j, none⟩ by unfold Addr.add; split <;> simp_all]
      refine (blk_cell hnb j).trans ?_
      rw [← hj]
      exact List.getElem?_toArray
    have HCX := Aside0.mk hcx
    have HBa := Aside0.mk hBa
    have HO := Aside0.mk hownA
    have HN := Aside0.mk hnb
    have HC0 := Aside0.mk (show ∀ u ∈ tkc x, u.oneCell' = true by simp [tkc, Value.oneCell'])
    have HC4 := Aside0.mk (show 0 < 5 by decide)
    have HC1 := Aside0.mk (show pre.length + 1 ≤ maxLen by have := hlen.out; unfold maxLen; omega)
    have HC2 := Aside0.mk (show (pre.length + 1) * 48 ≤ 140737488355328 by have := hlen.out; omega)
    have HC3 := Aside0.mk (show w.heap.size + 3 ≤ (W.alloc (.cells #[.int .i64 x.f0, .int .i64 x.f1, .int .i64 x.f2, .int .i64 x.f3, .string x.f4] 24)).heap.size by simp; omega)
    clear ha hz hBa hownA hnb hlN hcx
    gi_wp2_with (gi_at_builtin; (refine wpListIn_append_keep _ rfl (.tmp 13) (.tmp 15) 31 rfl (w.heap.size + 3) 24 i0 _ 5 48 Try.underlying31 hi hz0 hz1 hz2 rfl HC4.out _ pre.length (flat pre) rfl HO.out hk.out ⟨W.heap.size, 0, none⟩ 1 (tkc x) rfl rfl HCX.out HC0.out HC1.out HC2.out HC3.out ?_); (intro v' w1 ho' hg' hk'; obtain ⟨A2, cc2, rfl⟩ := own_slice ho'; have hs := tok_step (a0 := a0) (x := x) hI.out hv.out hown.out hbb.out hbz hk.out HBa.out ho' hg' hk'; have hd0 := hs.d0; have he0 := hs.e0; have hd1 := hs.d1; have he1 := hs.e1; have ht2 := hs.t2; have HS := Aside0.mk hs; clear hs ho' hg' hk'))
    have hfin := HS.out.fin
    refine ⟨?_, hfin.2⟩
    rw [hW0]
    exact hfin.1
  case done =>
    rintro D ys W hD rfl hI hK
    obtain ⟨v, hv, hown, hk⟩ := hI.v
    obtain ⟨A', cc', rfl⟩ := own_slice hown
    have c0 : W.cell? ⟨w.heap.size, 0, none⟩ = some (.slice A' ys.length cc') := (blk_cell hv 0).trans rfl
    have c1 : W.cell? ⟨w.heap.size + 1, 0, none⟩ = some (.int .i64 (tkEnd ys)) := (blk_cell hI.a 0).trans rfl
    by_cases h0 : en = 0
    · obtain ⟨pre, x, e, hx12⟩ := hlast.out.1 h0
      subst e
      have hlen : (pre ++ [x]).length = pre.length + 1 := by simp
      obtain ⟨g, hA⟩ : ∃ g, A' = some ⟨g, 0, none⟩ := by
        rcases hown.2 with ⟨_, h⟩ | ⟨g, cap, cur, h, _⟩
        · rw [hlen] at h; omega
        · injection h with h; exact ⟨g, h⟩
      subst hA
      have k0 : W.cell? ⟨g, pre.length * 5, none⟩ = some (.int .i64 12) := by
        refine (cell_add0 _ _ _).symm.trans (hown.cells (g := g) rfl (pre.length * 5) _ ?_)
        have hfl : (flat pre).length = pre.length * 5 := (tkR (w := W) (base := 0) (ok := fun _ => True) pre).1
        rw [flat_snoc, List.getElem?_append_right (by omega), hfl, Nat.sub_self]
        simp [tkc, hx12]
      rw [hlen] at hown c0
      have hl5 : pre.length + 1 ≤ a0.size + 1 := by have := hl.out; rw [hlen] at this; exact this
      clear hlen
      have HI := Aside0.mk hI
      have HOWN := Aside0.mk hown
      have HK := Aside0.mk hK
      have HD := Aside0.mk hD
      have H12 := Aside0.mk hx12
      have HEN := Aside0.mk h0
      clear hI hown hK hD hx12 h0 hv hk
      gi_wp2
      refine ⟨by simp, .inl ⟨_, _, rfl, run_takeDeferred HK.out, ?_⟩⟩
      have hr2 := hr.out
      rw [if_pos HEN.out] at hr2
      simp only [Prod.mk.injEq] at hr2
      obtain ⟨rfl, rfl, rfl⟩ := hr2
      refine ⟨.tuple #[.slice (some ⟨g, 0, none⟩) (pre.length + 1) cc', .int .i64 0, .int .i64 0], ?_, ⟨_, rfl, ?_, ?_⟩⟩
      · simp [results, Try.f9, go_sem]
      · refine R_flat ?_
        rw [List.length_append, List.length_singleton]
        refine own_weaken (own_move HOWN.out (fun k hk => ?_)) (Nat.le_add_right _ 3)
        obtain ⟨cells, hcl⟩ := own_typed HOWN.out k hk
        exact World.putObj_heap_other (fun e => by have h2 := HK.out; rw [← e, hcl] at h2; cases h2)
      · exact HI.out.B.trans (belowK_b (w := w) (Nat.le_refl _) W D _ _ (by have := HD.out; simp at this; omega) HK.out rfl rfl)
    · obtain ⟨hno, kd, b, nn, s, hN⟩ := hlast.out.2 h0
      have hr2 := hr.out
      rw [if_neg h0] at hr2
      simp only [Prod.mk.injEq] at hr2
      obtain ⟨rfl, rfl, rfl⟩ := hr2
      have A1 : Aside0 (lex_Next.f a0 (tkEnd ys) = some (kd, f, b, nn, s, en)) := ⟨by rw [next_f (by omega)]; exact congrArg some hN⟩
      have HI := Aside0.mk hI
      have HK := Aside0.mk hK
      have HD := Aside0.mk hD
      have hnc : ys = [] ∨ ∃ pre x, ys = pre ++ [x] := by
        rcases List.eq_nil_or_concat ys with h | ⟨pre, x, h⟩
        · exact .inl h
        · exact .inr ⟨pre, x, by rw [h, List.concat_eq_append]⟩
      rcases hnc with rfl | ⟨pre, x, rfl⟩
      · have hA : A' = none := by
          rcases hk with hk | hk
          · injection hk
          · simp at hk
        subst hA
        clear hI hK hD h0 hv hk hno hN hr hlast hown
        gi_wp2_with (refine ⟨trivial, ?_⟩; gi_at_call 7; refine (callsIn_wide.2 (lex_Next.calls a0 _ kd f b nn s en _ A1.out)).mono ?_; rintro e w1 ⟨rfl, hb1⟩; have HB1 := Aside0.mk hb1; clear hb1)
        gi_region
        gi_wp2
        have hKd := tok_kept HK.out HB1.out kd f b nn s
        refine ⟨by simp, .inl ⟨_, _, rfl, run_takeDeferred hKd, ?_⟩⟩
        refine ⟨.tuple #[.slice none 0 0, .int .i64 f, .int .i64 en], ?_, ⟨_, rfl, Kd.R_nil _ _ _ _ _, ?_⟩⟩
        · simp [results, Try.f9, go_sem]
        · exact (below_then HI.out.B HI.out.B.size (tok_fresh HB1.out kd f b nn s)).trans (belowK_b (w := w) (Nat.le_refl _) _ D _ _ (by have := HD.out; simp at this; omega) hKd rfl rfl)
      · have hlen : (pre ++ [x]).length = pre.length + 1 := by simp
        obtain ⟨g, hA⟩ : ∃ g, A' = some ⟨g, 0, none⟩ := by
          rcases hown.2 with ⟨_, h⟩ | ⟨g, cap, cur, h, _⟩
          · rw [hlen] at h; omega
          · injection h with h; exact ⟨g, h⟩
        subst hA
        have k0 : W.cell? ⟨g, pre.length * 5, none⟩ = some (.int .i64 x.f0) := by
          refine (cell_add0 _ _ _).symm.trans (hown.cells (g := g) rfl (pre.length * 5) _ ?_)
          have hfl : (flat pre).length = pre.length * 5 := (tkR (w := W) (base := 0) (ok := fun _ => True) pre).1
          rw [flat_snoc, List.getElem?_append_right (by omega), hfl, Nat.sub_self]
          simp [tkc]
        rw [hlen] at hown c0
        have hl5 : pre.length + 1 ≤ a0.size + 1 := by have := hl.out; rw [hlen] at this; exact this
        have hxb : (x.f0 == 12) = false := by simpa using hno x (by simp)
        clear hlen hI hK hD h0 hv hk hno hN hr hlast hown
        gi_wp2_with (refine ⟨trivial, ?_⟩; gi_at_call 7; refine (callsIn_wide.2 (lex_Next.calls a0 _ kd f b nn s en _ A1.out)).mono ?_; rintro e w1 ⟨rfl, hb1⟩; have HB1 := Aside0.mk hb1; clear hb1)
        gi_region
        gi_wp2
        have hKd := tok_kept HK.out HB1.out kd f b nn s
        refine ⟨by simp, .inl ⟨_, _, rfl, run_takeDeferred hKd, ?_⟩⟩
        refine ⟨.tuple #[.slice none 0 0, .int .i64 f, .int .i64 en], ?_, ⟨_, rfl, Kd.R_nil _ _ _ _ _, ?_⟩⟩
        · simp [results, Try.f9, go_sem]
        · exact (below_then HI.out.B HI.out.B.size (tok_fresh HB1.out kd f b nn s)).trans (belowK_b (w := w) (Nat.le_refl _) _ D _ _ (by have := HD.out; simp at this; omega) hKd rfl rfl)
  case stop =>
    rintro D c pre W _ _ h _
    exact h.elim
end Go.Proofs.Ytjdgjifacdnkgaa.X
end
section
namespace Go.Proofs.Ytjdgjifacdnkgaa.X
open Go.RowKit Go.Proofs.YtjdgjifacdnkgaaW.PrintWords Go.Proofs.YtjdgjifacdnkgaaW.PrintLast Go.Proofs.YtjdgjifacdnkgaaW.PrintMore
attribute [local go_sem] max2_int min2_int max_two min_two max_three min_three max_four min_four
set_option linter.unusedVariables false
set_option linter.unusedSimpArgs false
def sealringref06_Tokens.l0 : Nat → ByteArray → List (S24) → Int → Option ((List (S24)) × Int × Int)
  | 0, _, _, _ => none
  | k + 1, x0, x5, x6 => (sealringref06_Next.f k x0 x6).bind fun bt193 => (if bt193.2.2.2.2.2 = 0 then (if x5.length < 2932031007402 then ((some (x5 ++ [(⟨bt193.1, bt193.2.1, bt193.2.2.1, bt193.2.2.2.1, bt193.2.2.2.2.1⟩ : S24)] : List (S24))).bind fun y200 => (if bt193.1 = 12 then (some (y200, 0, 0)) else (sealringref06_Tokens.l0 k x0 y200 bt193.2.2.1))) else (none)) else (some (x5, bt193.2.1, bt193.2.2.2.2.2)))
def sealringref06_Tokens.f (k : Nat) (a0 : ByteArray) : Option ((List (S24)) × Int × Int) := sealringref06_Tokens.l0 k a0 ([] : List (S24)) 0
theorem sealringref06_Tokens.mono_l : ∀ k, (∀ y0 y1 y2, LeO (sealringref06_Tokens.l0 k y0 y1 y2) (sealringref06_Tokens.l0 (k + 1) y0 y1 y2))
  | 0 => fun _ _ _ r h => by simp [sealringref06_Tokens.l0] at h
  | k + 1 => by
    have ih0 := sealringref06_Tokens.mono_l k
    · intro y0 y1 y2
      unfold sealringref06_Tokens.l0
      repeat' first
      | (with_reducible exact ih0 _ _ _)
      | (with_reducible exact sealringref06_Next.mono _ _ _)
      | (with_reducible exact LeO.refl _)
      | (with_reducible exact LeO.none _)
      | (with_reducible refine LeO.ite ?_ ?_)
      | (with_reducible refine LeO.bind ?_ (fun _ => ?_))
      | exact ih0 _ _ _
      | exact sealringref06_Next.mono _ _ _
      | exact LeO.none _
      | refine LeO.ite ?_ ?_
      | refine LeO.bind ?_ (fun _ => ?_)
theorem sealringref06_Tokens.mono : ∀ a0 k, LeO (sealringref06_Tokens.f k a0) (sealringref06_Tokens.f (k + 1) a0) := by
  intro a0 k
  have ih0 := sealringref06_Tokens.mono_l k
  unfold sealringref06_Tokens.f
  repeat' first
      | (with_reducible exact ih0 _ _ _)
      | (with_reducible exact sealringref06_Next.mono _ _ _)
      | (with_reducible exact LeO.refl _)
      | (with_reducible exact LeO.none _)
      | (with_reducible refine LeO.ite ?_ ?_)
      | (with_reducible refine LeO.bind ?_ (fun _ => ?_))
      | exact ih0 _ _ _
      | exact sealringref06_Next.mono _ _ _
      | exact LeO.none _
      | refine LeO.ite ?_ ?_
      | refine LeO.bind ?_ (fun _ => ?_)
set_option maxHeartbeats 8000000 in
set_option maxRecDepth 100000 in
theorem sealringref06_Tokens.calls (k : Nat) (a0 : ByteArray) (r1 : List (S24)) (r2 : Int) (r3 : Int) (w : World) (h : sealringref06_Tokens.f k a0 = some (r1, r2, r3)) :
    Calls Try.prog 10 #[.string a0] w fun e w' => ∃ v0_ : Value, e = .returned (.tuple #[v0_, .int .i64 r2, .int .i64 r3]) ∧ Kd.R k24 24 w' w.heap.size (fun _ => True) v0_ r1 ∧ Below w.heap.size w w' := by
  have hu24 := Try.underlying24
  have HB := Aside0.mk (Below.refl w.heap.size w)
  have H : (sealringref06_Tokens.l0 k a0 ([] : List (S24)) 0) = some (r1, r2, r3) := h
  clear h
  have H' := Aside0.mk H
  clear H
  go_enter Try.func10, Try.ntmps10
  go_wp2
  repeat (go_quiet (fail); try go_wp2)
  go_loopg [5, 6] k (fun kq v5 v6 w' => ∃ (x5_1 : List (S24)) (x6_1 : Int), v6 = .int .i64 x6_1 ∧ Aside0 (sealringref06_Tokens.l0 kq a0 x5_1 x6_1 = some (r1, r2, r3)) ∧ Aside0 (kq ≤ k) ∧ Aside0 (Kd.R k24 24 w' w.heap.size (fun _ => True) v5 x5_1) ∧ Aside0 (Below w.heap.size w w'))
  case atStart => exact ⟨(([] : List (S24))), (0), (by first | rfl | (simp; done) | (simp [*]; done) | (simp [wrap64]; done)), (by first | with_reducible exact H' | exact H' | (subst_vars; exact H')), ⟨Nat.le_refl _⟩, ⟨by first | exact Kd.R_nil _ _ _ _ _ | exact Kd.N_nil _ _ _ _ _ | exact Kd.V_nil _ _ _ _ _ | exact Kd.Q_nil _ _ _ _ _ | exact Kd.S_nil _ _ _ _ _⟩, ⟨by repeat (first | (with_reducible first | exact HB.out | apply below_alloc | apply pw_below_drewN | apply below_drew1) | exact HB.out)⟩⟩
  case round =>
    clear H'
    try clear c1
    obtain ⟨x5_1, x6_1, rfl, HA, HK1, HO_5, HB⟩ := hrel
    cases gk with
    | zero => exact absurd HA.out (by simp [sealringref06_Tokens.l0])
    | succ k1 =>
      have H := HA.out
      clear HA
      simp only [sealringref06_Tokens.l0] at H
      replace H := Option.bind_eq_some_iff.mp H
      obtain ⟨⟨t193, t194, t195, t196, t197, t198⟩, A20, H⟩ := H
      replace H : (if t198 = 0 then (if x5_1.length < 2932031007402 then ((some (x5_1 ++ [(⟨t193, t194, t195, t196, t197⟩ : S24)] : List (S24))).bind fun y200 => (if t193 = 12 then (some (y200, 0, 0)) else (sealringref06_Tokens.l0 k1 a0 y200 t195))) else (none)) else (some (x5_1, t194, t198))) = some (r1, r2, r3) := H
      have A2 := Aside0.mk A20
      clear A20
      by_cases c3 : t198 = 0
      · rw [if_pos c3] at H
        have c3b0 : (t198 == 0) = true := beq_iff_eq.mpr c3
        have c3b1 : (t198 != 0) = false := bne_eq_false_iff_eq.mpr c3
        clear c3
        by_cases c4 : x5_1.length < 2932031007402
        · rw [if_pos c4] at H
          have LMc4 := Aside0.mk c4
          clear c4
          obtain ⟨y200, hy200⟩ : ∃ y_ : List (S24), y_ = (x5_1 ++ [(⟨t193, t194, t195, t196, t197⟩ : S24)]) := ⟨_, rfl⟩
          replace H : (if t193 = 12 then (some (y200, 0, 0)) else (sealringref06_Tokens.l0 k1 a0 y200 t195)) = some (r1, r2, r3) := by first | (rw [hy200]; with_reducible exact H) | (have H2_ := (Option.bind_some _ _).symm.trans H; rw [hy200]; with_reducible exact H2_) | (have H2_ := (Option.bind_some _ _).symm.trans H; with_reducible exact H2_) | with_reducible exact H | (rw [hy200]; exact H) | exact H
          have Ny200 := Aside0.mk hy200
          clear hy200
          by_cases c5 : t193 = 12
          · rw [if_pos c5] at H
            have c5b0 : (t193 == 12) = true := beq_iff_eq.mpr c5
            have c5b1 : (t193 != 12) = false := bne_eq_false_iff_eq.mpr c5
            clear c5
            simp only [Option.some.injEq, Prod.mk.injEq] at H
            obtain ⟨rfl, rfl, rfl⟩ := H
            go_wp2_with (first | (go_at_call 8; (with_reducible refine (sealringref06_Next.calls k1 a0 x6_1 t193 t194 t195 t196 t197 t198 _ A2.out).mono ?_); rintro e w6 ⟨rfl, hb⟩; have n0_ := Aside0.mk (Kd.R_below (by (with_reducible repeat (first | apply Kd.R_alloc | apply Kd.R_drewN | apply Kd.R_drew)); exact HO_5.out) hb); have n1_ := Aside0.mk (below_step (by repeat (first | (with_reducible first | exact HB.out | apply below_alloc | apply pw_below_drewN | apply below_drew1) | exact HB.out)) hb); clear HO_5; clear HB; have HO_5 := n0_; have HB := n1_; clear n0_ n1_; (try clear hb); (try clear hb2); (try clear hk); (try clear hi)) | ((with_reducible refine gate_dst (N := 7) rfl ?_); refine box_event ?hg (N := 7) ?hd (cs := #[.int .i64 0, .int .i64 0, .int .i64 0, .int .i64 0, .string (⟨#[]⟩ : ByteArray)]) (t := 24) ?hr ?_; (case hd => rfl); (case hg => rfl); (case hr => first | (go_simp; done) | (go_simp; rfl)); intro gb199 hg w7 hbox hb; have n0_ := Aside0.mk (Kd.R_below (Kd.R_elderB (by (with_reducible repeat (first | apply Kd.R_alloc | apply Kd.R_drewN | apply Kd.R_drew)); exact HO_5.out) gb199 (Nat.le_of_eq hg.symm)) hb); have n1_ := Aside0.mk (below_step (by repeat (first | (with_reducible first | exact HB.out | apply below_alloc | apply pw_below_drewN | apply below_drew1) | exact HB.out)) hb); have n2_ := Aside0.mk (hbox); have n3_ := Aside0.mk ((by rw [hg]; exact (below_size (by repeat (first | (with_reducible first | exact HB.out | apply below_alloc | apply pw_below_drewN | apply below_drew1) | exact HB.out))) : w.heap.size ≤ gb199)); have n4_ := Aside0.mk ((by rw [hg]; exact (below_size (by repeat (first | (with_reducible first | exact HB.out | apply below_alloc | apply pw_below_drewN | apply below_drew1) | exact HB.out))) : w.heap.size ≤ gb199)); clear HO_5; clear HB; have HO_5 := n0_; have HB := n1_; have BK199 := n2_; have GW199 := n3_; have GE199 := n4_; clear n0_ n1_ n2_ n3_ n4_; clear hb hbox hg; have hcz8_0 : w7.cell? ⟨gb199, 0, none⟩ = some (.int .i64 0) := (blk_cell BK199.out 0).trans rfl; have hcz8_1 : w7.cell? ⟨gb199, 1, none⟩ = some (.int .i64 0) := (blk_cell BK199.out 1).trans rfl; have hcz8_2 : w7.cell? ⟨gb199, 2, none⟩ = some (.int .i64 0) := (blk_cell BK199.out 2).trans rfl; have hcz8_3 : w7.cell? ⟨gb199, 3, none⟩ = some (.int .i64 0) := (blk_cell BK199.out 3).trans rfl; have hcz8_4 : w7.cell? ⟨gb199, 4, none⟩ = some (.string (⟨#[]⟩ : ByteArray)) := (blk_cell BK199.out 4).trans rfl; have hfz8_0 := blk_frozen BK199.out 0; have hfz8_1 := blk_frozen BK199.out 1; have hfz8_2 := blk_frozen BK199.out 2; have hfz8_3 := blk_frozen BK199.out 3; have hfz8_4 := blk_frozen BK199.out 4) | ((with_reducible refine gate_builtin (b := .append) (xs := #[.tmp 21, .tmp 23]) rfl ?_); at_builtin; refine Kd.R_append k24 (w0 := w) w.heap.size rfl (.tmp 21) (.tmp 23) 31 24 (.agg #[(.int .i64 0), (.int .i64 0), (.int .i64 0), (.int .i64 0), (.string ⟨#[]⟩)]) 48 rfl Try.underlying31 info24 rfl (by decide) (by omega) u5 x5_1 (⟨t193, t194, t195, t196, t197⟩ : S24) [.int .i64 t193, .int .i64 t194, .int .i64 t195, .int .i64 t196, .string t197] (fun k_ => k_ ≠ gb199) (fun _ => False) rfl (by first | (go_simp; done) | (go_simp; rfl)) ?aP (fun _ hk => hk.elim) ?aF ?aO ?aB ?aS ?aL ?_; (case aP => exact k24_mkM _ _ _ (⟨t193, t194, t195, t196, t197⟩ : S24)); (case aB => exact (by repeat (first | (with_reducible first | exact HB.out | apply below_alloc | apply pw_below_drewN | apply below_drew1 | refine below_set ?_ GE199.out) | exact HB.out))); (case aF => exact (fun k_ hk => Kd.freshB (g := gb199) (o := .cells #[.int .i64 t193, .int .i64 t194, .int .i64 t195, .int .i64 t196, .string t197] 24 (0, 0)) (by (with_reducible repeat (first | refine blk_drewN ?_ _ | refine blk_drew ?_ | refine blk_alloc ?_ _)); refine blk_put (cs := #[.int .i64 t193, .int .i64 t194, .int .i64 t195, .int .i64 t196, .string (⟨#[]⟩ : ByteArray)]) ?_ 4 _ rfl; (with_reducible repeat (first | refine blk_drewN ?_ _ | refine blk_drew ?_ | refine blk_alloc ?_ _)); refine blk_put (cs := #[.int .i64 t193, .int .i64 t194, .int .i64 t195, .int .i64 0, .string (⟨#[]⟩ : ByteArray)]) ?_ 3 _ rfl; (with_reducible repeat (first | refine blk_drewN ?_ _ | refine blk_drew ?_ | refine blk_alloc ?_ _)); refine blk_put (cs := #[.int .i64 t193, .int .i64 t194, .int .i64 0, .int .i64 0, .string (⟨#[]⟩ : ByteArray)]) ?_ 2 _ rfl; (with_reducible repeat (first | refine blk_drewN ?_ _ | refine blk_drew ?_ | refine blk_alloc ?_ _)); refine blk_put (cs := #[.int .i64 t193, .int .i64 0, .int .i64 0, .int .i64 0, .string (⟨#[]⟩ : ByteArray)]) ?_ 1 _ rfl; (with_reducible repeat (first | refine blk_drewN ?_ _ | refine blk_drew ?_ | refine blk_alloc ?_ _)); refine blk_put (cs := #[.int .i64 0, .int .i64 0, .int .i64 0, .int .i64 0, .string (⟨#[]⟩ : ByteArray)]) ?_ 0 _ rfl; (with_reducible repeat (first | refine blk_drewN ?_ _ | refine blk_drew ?_ | refine blk_alloc ?_ _)); exact BK199.out) k_ hk)); (case aO => exact (by (with_reducible repeat (first | apply Kd.R_alloc | apply Kd.R_drewN | apply Kd.R_drew)); exact Kd.R_mono (Kd.R_far (p := ⟨gb199, 4, none⟩) (Kd.R_far (p := ⟨gb199, 3, none⟩) (Kd.R_far (p := ⟨gb199, 2, none⟩) (Kd.R_far (p := ⟨gb199, 1, none⟩) (Kd.R_far (p := ⟨gb199, 0, none⟩) (Kd.R_mono HO_5.out (fun k_ hk => (⟨hk, hk.2⟩ : _ ∧ k_ ≠ gb199))) (fun _ hk => hk.2) (.int .i64 t193)) (fun _ hk => hk.2) (.int .i64 t194)) (fun _ hk => hk.2) (.int .i64 t195)) (fun _ hk => hk.2) (.int .i64 t196)) (fun _ hk => hk.2) (.string t197)) (fun _ hk => hk.1.2))); (case aS => exact (below_size (by repeat (first | (with_reducible first | exact HB.out | apply below_alloc | apply pw_below_drewN | apply below_drew1 | refine below_set ?_ GE199.out) | exact HB.out)))); (case aL => have := LMc4.out; omega); intro v201 w9 ho hb hg hat; rw [← Ny200.out] at ho; have n0_ := Aside0.mk (blk_grown (g := gb199) (o := .cells #[.int .i64 t193, .int .i64 t194, .int .i64 t195, .int .i64 t196, .string t197] 24 (0, 0)) (by (with_reducible repeat (first | refine blk_drewN ?_ _ | refine blk_drew ?_ | refine blk_alloc ?_ _)); refine blk_put (cs := #[.int .i64 t193, .int .i64 t194, .int .i64 t195, .int .i64 t196, .string (⟨#[]⟩ : ByteArray)]) ?_ 4 _ rfl; (with_reducible repeat (first | refine blk_drewN ?_ _ | refine blk_drew ?_ | refine blk_alloc ?_ _)); refine blk_put (cs := #[.int .i64 t193, .int .i64 t194, .int .i64 t195, .int .i64 0, .string (⟨#[]⟩ : ByteArray)]) ?_ 3 _ rfl; (with_reducible repeat (first | refine blk_drewN ?_ _ | refine blk_drew ?_ | refine blk_alloc ?_ _)); refine blk_put (cs := #[.int .i64 t193, .int .i64 t194, .int .i64 0, .int .i64 0, .string (⟨#[]⟩ : ByteArray)]) ?_ 2 _ rfl; (with_reducible repeat (first | refine blk_drewN ?_ _ | refine blk_drew ?_ | refine blk_alloc ?_ _)); refine blk_put (cs := #[.int .i64 t193, .int .i64 0, .int .i64 0, .int .i64 0, .string (⟨#[]⟩ : ByteArray)]) ?_ 1 _ rfl; (with_reducible repeat (first | refine blk_drewN ?_ _ | refine blk_drew ?_ | refine blk_alloc ?_ _)); refine blk_put (cs := #[.int .i64 0, .int .i64 0, .int .i64 0, .int .i64 0, .string (⟨#[]⟩ : ByteArray)]) ?_ 0 _ rfl; (with_reducible repeat (first | refine blk_drewN ?_ _ | refine blk_drew ?_ | refine blk_alloc ?_ _)); exact BK199.out) hg (Kd.R_away HO_5.out (fun _ hk => hk.2))); have n1_ := Aside0.mk (hb); have n2_ := Aside0.mk (ho); clear BK199; clear HB; clear HO_5; have BK199 := n0_; have HB := n1_; have HO202 := n2_; clear n0_ n1_ n2_; clear ho hb hg hat; have hcz10_0 : w9.cell? ⟨gb199, 0, none⟩ = some (.int .i64 t193) := (blk_cell BK199.out 0).trans rfl; have hcz10_1 : w9.cell? ⟨gb199, 1, none⟩ = some (.int .i64 t194) := (blk_cell BK199.out 1).trans rfl; have hcz10_2 : w9.cell? ⟨gb199, 2, none⟩ = some (.int .i64 t195) := (blk_cell BK199.out 2).trans rfl; have hcz10_3 : w9.cell? ⟨gb199, 3, none⟩ = some (.int .i64 t196) := (blk_cell BK199.out 3).trans rfl; have hcz10_4 : w9.cell? ⟨gb199, 4, none⟩ = some (.string t197) := (blk_cell BK199.out 4).trans rfl; have hfz10_0 := blk_frozen BK199.out 0; have hfz10_1 := blk_frozen BK199.out 1; have hfz10_2 := blk_frozen BK199.out 2; have hfz10_3 := blk_frozen BK199.out 3; have hfz10_4 := blk_frozen BK199.out 4))
            repeat (go_quiet (first | (go_at_call 8; (with_reducible refine (sealringref06_Next.calls k1 a0 x6_1 t193 t194 t195 t196 t197 t198 _ A2.out).mono ?_); rintro e w6 ⟨rfl, hb⟩; have n0_ := Aside0.mk (Kd.R_below (by (with_reducible repeat (first | apply Kd.R_alloc | apply Kd.R_drewN | apply Kd.R_drew)); exact HO_5.out) hb); have n1_ := Aside0.mk (below_step (by repeat (first | (with_reducible first | exact HB.out | apply below_alloc | apply pw_below_drewN | apply below_drew1) | exact HB.out)) hb); clear HO_5; clear HB; have HO_5 := n0_; have HB := n1_; clear n0_ n1_; (try clear hb); (try clear hb2); (try clear hk); (try clear hi)) | ((with_reducible refine gate_dst (N := 7) rfl ?_); refine box_event ?hg (N := 7) ?hd (cs := #[.int .i64 0, .int .i64 0, .int .i64 0, .int .i64 0, .string (⟨#[]⟩ : ByteArray)]) (t := 24) ?hr ?_; (case hd => rfl); (case hg => rfl); (case hr => first | (go_simp; done) | (go_simp; rfl)); intro gb199 hg w7 hbox hb; have n0_ := Aside0.mk (Kd.R_below (Kd.R_elderB (by (with_reducible repeat (first | apply Kd.R_alloc | apply Kd.R_drewN | apply Kd.R_drew)); exact HO_5.out) gb199 (Nat.le_of_eq hg.symm)) hb); have n1_ := Aside0.mk (below_step (by repeat (first | (with_reducible first | exact HB.out | apply below_alloc | apply pw_below_drewN | apply below_drew1) | exact HB.out)) hb); have n2_ := Aside0.mk (hbox); have n3_ := Aside0.mk ((by rw [hg]; exact (below_size (by repeat (first | (with_reducible first | exact HB.out | apply below_alloc | apply pw_below_drewN | apply below_drew1) | exact HB.out))) : w.heap.size ≤ gb199)); have n4_ := Aside0.mk ((by rw [hg]; exact (below_size (by repeat (first | (with_reducible first | exact HB.out | apply below_alloc | apply pw_below_drewN | apply below_drew1) | exact HB.out))) : w.heap.size ≤ gb199)); clear HO_5; clear HB; have HO_5 := n0_; have HB := n1_; have BK199 := n2_; have GW199 := n3_; have GE199 := n4_; clear n0_ n1_ n2_ n3_ n4_; clear hb hbox hg; have hcz8_0 : w7.cell? ⟨gb199, 0, none⟩ = some (.int .i64 0) := (blk_cell BK199.out 0).trans rfl; have hcz8_1 : w7.cell? ⟨gb199, 1, none⟩ = some (.int .i64 0) := (blk_cell BK199.out 1).trans rfl; have hcz8_2 : w7.cell? ⟨gb199, 2, none⟩ = some (.int .i64 0) := (blk_cell BK199.out 2).trans rfl; have hcz8_3 : w7.cell? ⟨gb199, 3, none⟩ = some (.int .i64 0) := (blk_cell BK199.out 3).trans rfl; have hcz8_4 : w7.cell? ⟨gb199, 4, none⟩ = some (.string (⟨#[]⟩ : ByteArray)) := (blk_cell BK199.out 4).trans rfl; have hfz8_0 := blk_frozen BK199.out 0; have hfz8_1 := blk_frozen BK199.out 1; have hfz8_2 := blk_frozen BK199.out 2; have hfz8_3 := blk_frozen BK199.out 3; have hfz8_4 := blk_frozen BK199.out 4) | ((with_reducible refine gate_builtin (b := .append) (xs := #[.tmp 21, .tmp 23]) rfl ?_); at_builtin; refine Kd.R_append k24 (w0 := w) w.heap.size rfl (.tmp 21) (.tmp 23) 31 24 (.agg #[(.int .i64 0), (.int .i64 0), (.int .i64 0), (.int .i64 0), (.string ⟨#[]⟩)]) 48 rfl Try.underlying31 info24 rfl (by decide) (by omega) u5 x5_1 (⟨t193, t194, t195, t196, t197⟩ : S24) [.int .i64 t193, .int .i64 t194, .int .i64 t195, .int .i64 t196, .string t197] (fun k_ => k_ ≠ gb199) (fun _ => False) rfl (by first | (go_simp; done) | (go_simp; rfl)) ?aP (fun _ hk => hk.elim) ?aF ?aO ?aB ?aS ?aL ?_; (case aP => exact k24_mkM _ _ _ (⟨t193, t194, t195, t196, t197⟩ : S24)); (case aB => exact (by repeat (first | (with_reducible first | exact HB.out | apply below_alloc | apply pw_below_drewN | apply below_drew1 | refine below_set ?_ GE199.out) | exact HB.out))); (case aF => exact (fun k_ hk => Kd.freshB (g := gb199) (o := .cells #[.int .i64 t193, .int .i64 t194, .int .i64 t195, .int .i64 t196, .string t197] 24 (0, 0)) (by (with_reducible repeat (first | refine blk_drewN ?_ _ | refine blk_drew ?_ | refine blk_alloc ?_ _)); refine blk_put (cs := #[.int .i64 t193, .int .i64 t194, .int .i64 t195, .int .i64 t196, .string (⟨#[]⟩ : ByteArray)]) ?_ 4 _ rfl; (with_reducible repeat (first | refine blk_drewN ?_ _ | refine blk_drew ?_ | refine blk_alloc ?_ _)); refine blk_put (cs := #[.int .i64 t193, .int .i64 t194, .int .i64 t195, .int .i64 0, .string (⟨#[]⟩ : ByteArray)]) ?_ 3 _ rfl; (with_reducible repeat (first | refine blk_drewN ?_ _ | refine blk_drew ?_ | refine blk_alloc ?_ _)); refine blk_put (cs := #[.int .i64 t193, .int .i64 t194, .int .i64 0, .int .i64 0, .string (⟨#[]⟩ : ByteArray)]) ?_ 2 _ rfl; (with_reducible repeat (first | refine blk_drewN ?_ _ | refine blk_drew ?_ | refine blk_alloc ?_ _)); refine blk_put (cs := #[.int .i64 t193, .int .i64 0, .int .i64 0, .int .i64 0, .string (⟨#[]⟩ : ByteArray)]) ?_ 1 _ rfl; (with_reducible repeat (first | refine blk_drewN ?_ _ | refine blk_drew ?_ | refine blk_alloc ?_ _)); refine blk_put (cs := #[.int .i64 0, .int .i64 0, .int .i64 0, .int .i64 0, .string (⟨#[]⟩ : ByteArray)]) ?_ 0 _ rfl; (with_reducible repeat (first | refine blk_drewN ?_ _ | refine blk_drew ?_ | refine blk_alloc ?_ _)); exact BK199.out) k_ hk)); (case aO => exact (by (with_reducible repeat (first | apply Kd.R_alloc | apply Kd.R_drewN | apply Kd.R_drew)); exact Kd.R_mono (Kd.R_far (p := ⟨gb199, 4, none⟩) (Kd.R_far (p := ⟨gb199, 3, none⟩) (Kd.R_far (p := ⟨gb199, 2, none⟩) (Kd.R_far (p := ⟨gb199, 1, none⟩) (Kd.R_far (p := ⟨gb199, 0, none⟩) (Kd.R_mono HO_5.out (fun k_ hk => (⟨hk, hk.2⟩ : _ ∧ k_ ≠ gb199))) (fun _ hk => hk.2) (.int .i64 t193)) (fun _ hk => hk.2) (.int .i64 t194)) (fun _ hk => hk.2) (.int .i64 t195)) (fun _ hk => hk.2) (.int .i64 t196)) (fun _ hk => hk.2) (.string t197)) (fun _ hk => hk.1.2))); (case aS => exact (below_size (by repeat (first | (with_reducible first | exact HB.out | apply below_alloc | apply pw_below_drewN | apply below_drew1 | refine below_set ?_ GE199.out) | exact HB.out)))); (case aL => have := LMc4.out; omega); intro v201 w9 ho hb hg hat; rw [← Ny200.out] at ho; have n0_ := Aside0.mk (blk_grown (g := gb199) (o := .cells #[.int .i64 t193, .int .i64 t194, .int .i64 t195, .int .i64 t196, .string t197] 24 (0, 0)) (by (with_reducible repeat (first | refine blk_drewN ?_ _ | refine blk_drew ?_ | refine blk_alloc ?_ _)); refine blk_put (cs := #[.int .i64 t193, .int .i64 t194, .int .i64 t195, .int .i64 t196, .string (⟨#[]⟩ : ByteArray)]) ?_ 4 _ rfl; (with_reducible repeat (first | refine blk_drewN ?_ _ | refine blk_drew ?_ | refine blk_alloc ?_ _)); refine blk_put (cs := #[.int .i64 t193, .int .i64 t194, .int .i64 t195, .int .i64 0, .string (⟨#[]⟩ : ByteArray)]) ?_ 3 _ rfl; (with_reducible repeat (first | refine blk_drewN ?_ _ | refine blk_drew ?_ | refine blk_alloc ?_ _)); refine blk_put (cs := #[.int .i64 t193, .int .i64 t194, .int .i64 0, .int .i64 0, .string (⟨#[]⟩ : ByteArray)]) ?_ 2 _ rfl; (with_reducible repeat (first | refine blk_drewN ?_ _ | refine blk_drew ?_ | refine blk_alloc ?_ _)); refine blk_put (cs := #[.int .i64 t193, .int .i64 0, .int .i64 0, .int .i64 0, .string (⟨#[]⟩ : ByteArray)]) ?_ 1 _ rfl; (with_reducible repeat (first | refine blk_drewN ?_ _ | refine blk_drew ?_ | refine blk_alloc ?_ _)); refine blk_put (cs := #[.int .i64 0, .int .i64 0, .int .i64 0, .int .i64 0, .string (⟨#[]⟩ : ByteArray)]) ?_ 0 _ rfl; (with_reducible repeat (first | refine blk_drewN ?_ _ | refine blk_drew ?_ | refine blk_alloc ?_ _)); exact BK199.out) hg (Kd.R_away HO_5.out (fun _ hk => hk.2))); have n1_ := Aside0.mk (hb); have n2_ := Aside0.mk (ho); clear BK199; clear HB; clear HO_5; have BK199 := n0_; have HB := n1_; have HO202 := n2_; clear n0_ n1_ n2_; clear ho hb hg hat; have hcz10_0 : w9.cell? ⟨gb199, 0, none⟩ = some (.int .i64 t193) := (blk_cell BK199.out 0).trans rfl; have hcz10_1 : w9.cell? ⟨gb199, 1, none⟩ = some (.int .i64 t194) := (blk_cell BK199.out 1).trans rfl; have hcz10_2 : w9.cell? ⟨gb199, 2, none⟩ = some (.int .i64 t195) := (blk_cell BK199.out 2).trans rfl; have hcz10_3 : w9.cell? ⟨gb199, 3, none⟩ = some (.int .i64 t196) := (blk_cell BK199.out 3).trans rfl; have hcz10_4 : w9.cell? ⟨gb199, 4, none⟩ = some (.string t197) := (blk_cell BK199.out 4).trans rfl; have hfz10_0 := blk_frozen BK199.out 0; have hfz10_1 := blk_frozen BK199.out 1; have hfz10_2 := blk_frozen BK199.out 2; have hfz10_3 := blk_frozen BK199.out 3; have hfz10_4 := blk_frozen BK199.out 4)); try go_wp2_with (first | (go_at_call 8; (with_reducible refine (sealringref06_Next.calls k1 a0 x6_1 t193 t194 t195 t196 t197 t198 _ A2.out).mono ?_); rintro e w6 ⟨rfl, hb⟩; have n0_ := Aside0.mk (Kd.R_below (by (with_reducible repeat (first | apply Kd.R_alloc | apply Kd.R_drewN | apply Kd.R_drew)); exact HO_5.out) hb); have n1_ := Aside0.mk (below_step (by repeat (first | (with_reducible first | exact HB.out | apply below_alloc | apply pw_below_drewN | apply below_drew1) | exact HB.out)) hb); clear HO_5; clear HB; have HO_5 := n0_; have HB := n1_; clear n0_ n1_; (try clear hb); (try clear hb2); (try clear hk); (try clear hi)) | ((with_reducible refine gate_dst (N := 7) rfl ?_); refine box_event ?hg (N := 7) ?hd (cs := #[.int .i64 0, .int .i64 0, .int .i64 0, .int .i64 0, .string (⟨#[]⟩ : ByteArray)]) (t := 24) ?hr ?_; (case hd => rfl); (case hg => rfl); (case hr => first | (go_simp; done) | (go_simp; rfl)); intro gb199 hg w7 hbox hb; have n0_ := Aside0.mk (Kd.R_below (Kd.R_elderB (by (with_reducible repeat (first | apply Kd.R_alloc | apply Kd.R_drewN | apply Kd.R_drew)); exact HO_5.out) gb199 (Nat.le_of_eq hg.symm)) hb); have n1_ := Aside0.mk (below_step (by repeat (first | (with_reducible first | exact HB.out | apply below_alloc | apply pw_below_drewN | apply below_drew1) | exact HB.out)) hb); have n2_ := Aside0.mk (hbox); have n3_ := Aside0.mk ((by rw [hg]; exact (below_size (by repeat (first | (with_reducible first | exact HB.out | apply below_alloc | apply pw_below_drewN | apply below_drew1) | exact HB.out))) : w.heap.size ≤ gb199)); have n4_ := Aside0.mk ((by rw [hg]; exact (below_size (by repeat (first | (with_reducible first | exact HB.out | apply below_alloc | apply pw_below_drewN | apply below_drew1) | exact HB.out))) : w.heap.size ≤ gb199)); clear HO_5; clear HB; have HO_5 := n0_; have HB := n1_; have BK199 := n2_; have GW199 := n3_; have GE199 := n4_; clear n0_ n1_ n2_ n3_ n4_; clear hb hbox hg; have hcz8_0 : w7.cell? ⟨gb199, 0, none⟩ = some (.int .i64 0) := (blk_cell BK199.out 0).trans rfl; have hcz8_1 : w7.cell? ⟨gb199, 1, none⟩ = some (.int .i64 0) := (blk_cell BK199.out 1).trans rfl; have hcz8_2 : w7.cell? ⟨gb199, 2, none⟩ = some (.int .i64 0) := (blk_cell BK199.out 2).trans rfl; have hcz8_3 : w7.cell? ⟨gb199, 3, none⟩ = some (.int .i64 0) := (blk_cell BK199.out 3).trans rfl; have hcz8_4 : w7.cell? ⟨gb199, 4, none⟩ = some (.string (⟨#[]⟩ : ByteArray)) := (blk_cell BK199.out 4).trans rfl; have hfz8_0 := blk_frozen BK199.out 0; have hfz8_1 := blk_frozen BK199.out 1; have hfz8_2 := blk_frozen BK199.out 2; have hfz8_3 := blk_frozen BK199.out 3; have hfz8_4 := blk_frozen BK199.out 4) | ((with_reducible refine gate_builtin (b := .append) (xs := #[.tmp 21, .tmp 23]) rfl ?_); at_builtin; refine Kd.R_append k24 (w0 := w) w.heap.size rfl (.tmp 21) (.tmp 23) 31 24 (.agg #[(.int .i64 0), (.int .i64 0), (.int .i64 0), (.int .i64 0), (.string ⟨#[]⟩)]) 48 rfl Try.underlying31 info24 rfl (by decide) (by omega) u5 x5_1 (⟨t193, t194, t195, t196, t197⟩ : S24) [.int .i64 t193, .int .i64 t194, .int .i64 t195, .int .i64 t196, .string t197] (fun k_ => k_ ≠ gb199) (fun _ => False) rfl (by first | (go_simp; done) | (go_simp; rfl)) ?aP (fun _ hk => hk.elim) ?aF ?aO ?aB ?aS ?aL ?_; (case aP => exact k24_mkM _ _ _ (⟨t193, t194, t195, t196, t197⟩ : S24)); (case aB => exact (by repeat (first | (with_reducible first | exact HB.out | apply below_alloc | apply pw_below_drewN | apply below_drew1 | refine below_set ?_ GE199.out) | exact HB.out))); (case aF => exact (fun k_ hk => Kd.freshB (g := gb199) (o := .cells #[.int .i64 t193, .int .i64 t194, .int .i64 t195, .int .i64 t196, .string t197] 24 (0, 0)) (by (with_reducible repeat (first | refine blk_drewN ?_ _ | refine blk_drew ?_ | refine blk_alloc ?_ _)); refine blk_put (cs := #[.int .i64 t193, .int .i64 t194, .int .i64 t195, .int .i64 t196, .string (⟨#[]⟩ : ByteArray)]) ?_ 4 _ rfl; (with_reducible repeat (first | refine blk_drewN ?_ _ | refine blk_drew ?_ | refine blk_alloc ?_ _)); refine blk_put (cs := #[.int .i64 t193, .int .i64 t194, .int .i64 t195, .int .i64 0, .string (⟨#[]⟩ : ByteArray)]) ?_ 3 _ rfl; (with_reducible repeat (first | refine blk_drewN ?_ _ | refine blk_drew ?_ | refine blk_alloc ?_ _)); refine blk_put (cs := #[.int .i64 t193, .int .i64 t194, .int .i64 0, .int .i64 0, .string (⟨#[]⟩ : ByteArray)]) ?_ 2 _ rfl; (with_reducible repeat (first | refine blk_drewN ?_ _ | refine blk_drew ?_ | refine blk_alloc ?_ _)); refine blk_put (cs := #[.int .i64 t193, .int .i64 0, .int .i64 0, .int .i64 0, .string (⟨#[]⟩ : ByteArray)]) ?_ 1 _ rfl; (with_reducible repeat (first | refine blk_drewN ?_ _ | refine blk_drew ?_ | refine blk_alloc ?_ _)); refine blk_put (cs := #[.int .i64 0, .int .i64 0, .int .i64 0, .int .i64 0, .string (⟨#[]⟩ : ByteArray)]) ?_ 0 _ rfl; (with_reducible repeat (first | refine blk_drewN ?_ _ | refine blk_drew ?_ | refine blk_alloc ?_ _)); exact BK199.out) k_ hk)); (case aO => exact (by (with_reducible repeat (first | apply Kd.R_alloc | apply Kd.R_drewN | apply Kd.R_drew)); exact Kd.R_mono (Kd.R_far (p := ⟨gb199, 4, none⟩) (Kd.R_far (p := ⟨gb199, 3, none⟩) (Kd.R_far (p := ⟨gb199, 2, none⟩) (Kd.R_far (p := ⟨gb199, 1, none⟩) (Kd.R_far (p := ⟨gb199, 0, none⟩) (Kd.R_mono HO_5.out (fun k_ hk => (⟨hk, hk.2⟩ : _ ∧ k_ ≠ gb199))) (fun _ hk => hk.2) (.int .i64 t193)) (fun _ hk => hk.2) (.int .i64 t194)) (fun _ hk => hk.2) (.int .i64 t195)) (fun _ hk => hk.2) (.int .i64 t196)) (fun _ hk => hk.2) (.string t197)) (fun _ hk => hk.1.2))); (case aS => exact (below_size (by repeat (first | (with_reducible first | exact HB.out | apply below_alloc | apply pw_below_drewN | apply below_drew1 | refine below_set ?_ GE199.out) | exact HB.out)))); (case aL => have := LMc4.out; omega); intro v201 w9 ho hb hg hat; rw [← Ny200.out] at ho; have n0_ := Aside0.mk (blk_grown (g := gb199) (o := .cells #[.int .i64 t193, .int .i64 t194, .int .i64 t195, .int .i64 t196, .string t197] 24 (0, 0)) (by (with_reducible repeat (first | refine blk_drewN ?_ _ | refine blk_drew ?_ | refine blk_alloc ?_ _)); refine blk_put (cs := #[.int .i64 t193, .int .i64 t194, .int .i64 t195, .int .i64 t196, .string (⟨#[]⟩ : ByteArray)]) ?_ 4 _ rfl; (with_reducible repeat (first | refine blk_drewN ?_ _ | refine blk_drew ?_ | refine blk_alloc ?_ _)); refine blk_put (cs := #[.int .i64 t193, .int .i64 t194, .int .i64 t195, .int .i64 0, .string (⟨#[]⟩ : ByteArray)]) ?_ 3 _ rfl; (with_reducible repeat (first | refine blk_drewN ?_ _ | refine blk_drew ?_ | refine blk_alloc ?_ _)); refine blk_put (cs := #[.int .i64 t193, .int .i64 t194, .int .i64 0, .int .i64 0, .string (⟨#[]⟩ : ByteArray)]) ?_ 2 _ rfl; (with_reducible repeat (first | refine blk_drewN ?_ _ | refine blk_drew ?_ | refine blk_alloc ?_ _)); refine blk_put (cs := #[.int .i64 t193, .int .i64 0, .int .i64 0, .int .i64 0, .string (⟨#[]⟩ : ByteArray)]) ?_ 1 _ rfl; (with_reducible repeat (first | refine blk_drewN ?_ _ | refine blk_drew ?_ | refine blk_alloc ?_ _)); refine blk_put (cs := #[.int .i64 0, .int .i64 0, .int .i64 0, .int .i64 0, .string (⟨#[]⟩ : ByteArray)]) ?_ 0 _ rfl; (with_reducible repeat (first | refine blk_drewN ?_ _ | refine blk_drew ?_ | refine blk_alloc ?_ _)); exact BK199.out) hg (Kd.R_away HO_5.out (fun _ hk => hk.2))); have n1_ := Aside0.mk (hb); have n2_ := Aside0.mk (ho); clear BK199; clear HB; clear HO_5; have BK199 := n0_; have HB := n1_; have HO202 := n2_; clear n0_ n1_ n2_; clear ho hb hg hat; have hcz10_0 : w9.cell? ⟨gb199, 0, none⟩ = some (.int .i64 t193) := (blk_cell BK199.out 0).trans rfl; have hcz10_1 : w9.cell? ⟨gb199, 1, none⟩ = some (.int .i64 t194) := (blk_cell BK199.out 1).trans rfl; have hcz10_2 : w9.cell? ⟨gb199, 2, none⟩ = some (.int .i64 t195) := (blk_cell BK199.out 2).trans rfl; have hcz10_3 : w9.cell? ⟨gb199, 3, none⟩ = some (.int .i64 t196) := (blk_cell BK199.out 3).trans rfl; have hcz10_4 : w9.cell? ⟨gb199, 4, none⟩ = some (.string t197) := (blk_cell BK199.out 4).trans rfl; have hfz10_0 := blk_frozen BK199.out 0; have hfz10_1 := blk_frozen BK199.out 1; have hfz10_2 := blk_frozen BK199.out 2; have hfz10_3 := blk_frozen BK199.out 3; have hfz10_4 := blk_frozen BK199.out 4)))
            go_ret3
            exact ⟨_, by first | rfl | (simp [errW_none, errW_some] <;> rfl) | (simp [*, errW_none, errW_some] <;> rfl), by (with_reducible repeat (first | apply Kd.R_alloc | apply Kd.R_drewN | apply Kd.R_drew)); exact Kd.R_mono HO202.out (fun _ hk => trivial), by repeat (first | (with_reducible first | exact HB.out | apply below_alloc | apply pw_below_drewN | apply below_drew1 | refine below_set ?_ GE199.out) | exact HB.out)⟩
          · rw [if_neg c5] at H
            have c5b0 : (t193 == 12) = false := beq_eq_false_iff_ne.mpr c5
            have c5b1 : (t193 != 12) = true := bne_iff_ne.mpr c5
            have H' := Aside0.mk H
            clear H
            go_wp2_with (first | (go_at_call 8; (with_reducible refine (sealringref06_Next.calls k1 a0 x6_1 t193 t194 t195 t196 t197 t198 _ A2.out).mono ?_); rintro e w11 ⟨rfl, hb⟩; have n0_ := Aside0.mk (Kd.R_below (by (with_reducible repeat (first | apply Kd.R_alloc | apply Kd.R_drewN | apply Kd.R_drew)); exact HO_5.out) hb); have n1_ := Aside0.mk (below_step (by repeat (first | (with_reducible first | exact HB.out | apply below_alloc | apply pw_below_drewN | apply below_drew1) | exact HB.out)) hb); clear HO_5; clear HB; have HO_5 := n0_; have HB := n1_; clear n0_ n1_; (try clear hb); (try clear hb2); (try clear hk); (try clear hi)) | ((with_reducible refine gate_dst (N := 7) rfl ?_); refine box_event ?hg (N := 7) ?hd (cs := #[.int .i64 0, .int .i64 0, .int .i64 0, .int .i64 0, .string (⟨#[]⟩ : ByteArray)]) (t := 24) ?hr ?_; (case hd => rfl); (case hg => rfl); (case hr => first | (go_simp; done) | (go_simp; rfl)); intro gb199 hg w12 hbox hb; have n0_ := Aside0.mk (Kd.R_below (Kd.R_elderB (by (with_reducible repeat (first | apply Kd.R_alloc | apply Kd.R_drewN | apply Kd.R_drew)); exact HO_5.out) gb199 (Nat.le_of_eq hg.symm)) hb); have n1_ := Aside0.mk (below_step (by repeat (first | (with_reducible first | exact HB.out | apply below_alloc | apply pw_below_drewN | apply below_drew1) | exact HB.out)) hb); have n2_ := Aside0.mk (hbox); have n3_ := Aside0.mk ((by rw [hg]; exact (below_size (by repeat (first | (with_reducible first | exact HB.out | apply below_alloc | apply pw_below_drewN | apply below_drew1) | exact HB.out))) : w.heap.size ≤ gb199)); have n4_ := Aside0.mk ((by rw [hg]; exact (below_size (by repeat (first | (with_reducible first | exact HB.out | apply below_alloc | apply pw_below_drewN | apply below_drew1) | exact HB.out))) : w.heap.size ≤ gb199)); clear HO_5; clear HB; have HO_5 := n0_; have HB := n1_; have BK199 := n2_; have GW199 := n3_; have GE199 := n4_; clear n0_ n1_ n2_ n3_ n4_; clear hb hbox hg; have hcz13_0 : w12.cell? ⟨gb199, 0, none⟩ = some (.int .i64 0) := (blk_cell BK199.out 0).trans rfl; have hcz13_1 : w12.cell? ⟨gb199, 1, none⟩ = some (.int .i64 0) := (blk_cell BK199.out 1).trans rfl; have hcz13_2 : w12.cell? ⟨gb199, 2, none⟩ = some (.int .i64 0) := (blk_cell BK199.out 2).trans rfl; have hcz13_3 : w12.cell? ⟨gb199, 3, none⟩ = some (.int .i64 0) := (blk_cell BK199.out 3).trans rfl; have hcz13_4 : w12.cell? ⟨gb199, 4, none⟩ = some (.string (⟨#[]⟩ : ByteArray)) := (blk_cell BK199.out 4).trans rfl; have hfz13_0 := blk_frozen BK199.out 0; have hfz13_1 := blk_frozen BK199.out 1; have hfz13_2 := blk_frozen BK199.out 2; have hfz13_3 := blk_frozen BK199.out 3; have hfz13_4 := blk_frozen BK199.out 4) | ((with_reducible refine gate_builtin (b := .append) (xs := #[.tmp 21, .tmp 23]) rfl ?_); at_builtin; refine Kd.R_append k24 (w0 := w) w.heap.size rfl (.tmp 21) (.tmp 23) 31 24 (.agg #[(.int .i64 0), (.int .i64 0), (.int .i64 0), (.int .i64 0), (.string ⟨#[]⟩)]) 48 rfl Try.underlying31 info24 rfl (by decide) (by omega) u5 x5_1 (⟨t193, t194, t195, t196, t197⟩ : S24) [.int .i64 t193, .int .i64 t194, .int .i64 t195, .int .i64 t196, .string t197] (fun k_ => k_ ≠ gb199) (fun _ => False) rfl (by first | (go_simp; done) | (go_simp; rfl)) ?aP (fun _ hk => hk.elim) ?aF ?aO ?aB ?aS ?aL ?_; (case aP => exact k24_mkM _ _ _ (⟨t193, t194, t195, t196, t197⟩ : S24)); (case aB => exact (by repeat (first | (with_reducible first | exact HB.out | apply below_alloc | apply pw_below_drewN | apply below_drew1 | refine below_set ?_ GE199.out) | exact HB.out))); (case aF => exact (fun k_ hk => Kd.freshB (g := gb199) (o := .cells #[.int .i64 t193, .int .i64 t194, .int .i64 t195, .int .i64 t196, .string t197] 24 (0, 0)) (by (with_reducible repeat (first | refine blk_drewN ?_ _ | refine blk_drew ?_ | refine blk_alloc ?_ _)); refine blk_put (cs := #[.int .i64 t193, .int .i64 t194, .int .i64 t195, .int .i64 t196, .string (⟨#[]⟩ : ByteArray)]) ?_ 4 _ rfl; (with_reducible repeat (first | refine blk_drewN ?_ _ | refine blk_drew ?_ | refine blk_alloc ?_ _)); refine blk_put (cs := #[.int .i64 t193, .int .i64 t194, .int .i64 t195, .int .i64 0, .string (⟨#[]⟩ : ByteArray)]) ?_ 3 _ rfl; (with_reducible repeat (first | refine blk_drewN ?_ _ | refine blk_drew ?_ | refine blk_alloc ?_ _)); refine blk_put (cs := #[.int .i64 t193, .int .i64 t194, .int .i64 0, .int .i64 0, .string (⟨#[]⟩ : ByteArray)]) ?_ 2 _ rfl; (with_reducible repeat (first | refine blk_drewN ?_ _ | refine blk_drew ?_ | refine blk_alloc ?_ _)); refine blk_put (cs := #[.int .i64 t193, .int .i64 0, .int .i64 0, .int .i64 0, .string (⟨#[]⟩ : ByteArray)]) ?_ 1 _ rfl; (with_reducible repeat (first | refine blk_drewN ?_ _ | refine blk_drew ?_ | refine blk_alloc ?_ _)); refine blk_put (cs := #[.int .i64 0, .int .i64 0, .int .i64 0, .int .i64 0, .string (⟨#[]⟩ : ByteArray)]) ?_ 0 _ rfl; (with_reducible repeat (first | refine blk_drewN ?_ _ | refine blk_drew ?_ | refine blk_alloc ?_ _)); exact BK199.out) k_ hk)); (case aO => exact (by (with_reducible repeat (first | apply Kd.R_alloc | apply Kd.R_drewN | apply Kd.R_drew)); exact Kd.R_mono (Kd.R_far (p := ⟨gb199, 4, none⟩) (Kd.R_far (p := ⟨gb199, 3, none⟩) (Kd.R_far (p := ⟨gb199, 2, none⟩) (Kd.R_far (p := ⟨gb199, 1, none⟩) (Kd.R_far (p := ⟨gb199, 0, none⟩) (Kd.R_mono HO_5.out (fun k_ hk => (⟨hk, hk.2⟩ : _ ∧ k_ ≠ gb199))) (fun _ hk => hk.2) (.int .i64 t193)) (fun _ hk => hk.2) (.int .i64 t194)) (fun _ hk => hk.2) (.int .i64 t195)) (fun _ hk => hk.2) (.int .i64 t196)) (fun _ hk => hk.2) (.string t197)) (fun _ hk => hk.1.2))); (case aS => exact (below_size (by repeat (first | (with_reducible first | exact HB.out | apply below_alloc | apply pw_below_drewN | apply below_drew1 | refine below_set ?_ GE199.out) | exact HB.out)))); (case aL => have := LMc4.out; omega); intro v201 w14 ho hb hg hat; rw [← Ny200.out] at ho; have n0_ := Aside0.mk (blk_grown (g := gb199) (o := .cells #[.int .i64 t193, .int .i64 t194, .int .i64 t195, .int .i64 t196, .string t197] 24 (0, 0)) (by (with_reducible repeat (first | refine blk_drewN ?_ _ | refine blk_drew ?_ | refine blk_alloc ?_ _)); refine blk_put (cs := #[.int .i64 t193, .int .i64 t194, .int .i64 t195, .int .i64 t196, .string (⟨#[]⟩ : ByteArray)]) ?_ 4 _ rfl; (with_reducible repeat (first | refine blk_drewN ?_ _ | refine blk_drew ?_ | refine blk_alloc ?_ _)); refine blk_put (cs := #[.int .i64 t193, .int .i64 t194, .int .i64 t195, .int .i64 0, .string (⟨#[]⟩ : ByteArray)]) ?_ 3 _ rfl; (with_reducible repeat (first | refine blk_drewN ?_ _ | refine blk_drew ?_ | refine blk_alloc ?_ _)); refine blk_put (cs := #[.int .i64 t193, .int .i64 t194, .int .i64 0, .int .i64 0, .string (⟨#[]⟩ : ByteArray)]) ?_ 2 _ rfl; (with_reducible repeat (first | refine blk_drewN ?_ _ | refine blk_drew ?_ | refine blk_alloc ?_ _)); refine blk_put (cs := #[.int .i64 t193, .int .i64 0, .int .i64 0, .int .i64 0, .string (⟨#[]⟩ : ByteArray)]) ?_ 1 _ rfl; (with_reducible repeat (first | refine blk_drewN ?_ _ | refine blk_drew ?_ | refine blk_alloc ?_ _)); refine blk_put (cs := #[.int .i64 0, .int .i64 0, .int .i64 0, .int .i64 0, .string (⟨#[]⟩ : ByteArray)]) ?_ 0 _ rfl; (with_reducible repeat (first | refine blk_drewN ?_ _ | refine blk_drew ?_ | refine blk_alloc ?_ _)); exact BK199.out) hg (Kd.R_away HO_5.out (fun _ hk => hk.2))); have n1_ := Aside0.mk (hb); have n2_ := Aside0.mk (ho); clear BK199; clear HB; clear HO_5; have BK199 := n0_; have HB := n1_; have HO202 := n2_; clear n0_ n1_ n2_; clear ho hb hg hat; have hcz15_0 : w14.cell? ⟨gb199, 0, none⟩ = some (.int .i64 t193) := (blk_cell BK199.out 0).trans rfl; have hcz15_1 : w14.cell? ⟨gb199, 1, none⟩ = some (.int .i64 t194) := (blk_cell BK199.out 1).trans rfl; have hcz15_2 : w14.cell? ⟨gb199, 2, none⟩ = some (.int .i64 t195) := (blk_cell BK199.out 2).trans rfl; have hcz15_3 : w14.cell? ⟨gb199, 3, none⟩ = some (.int .i64 t196) := (blk_cell BK199.out 3).trans rfl; have hcz15_4 : w14.cell? ⟨gb199, 4, none⟩ = some (.string t197) := (blk_cell BK199.out 4).trans rfl; have hfz15_0 := blk_frozen BK199.out 0; have hfz15_1 := blk_frozen BK199.out 1; have hfz15_2 := blk_frozen BK199.out 2; have hfz15_3 := blk_frozen BK199.out 3; have hfz15_4 := blk_frozen BK199.out 4))
            repeat (go_quiet (first | (go_at_call 8; (with_reducible refine (sealringref06_Next.calls k1 a0 x6_1 t193 t194 t195 t196 t197 t198 _ A2.out).mono ?_); rintro e w11 ⟨rfl, hb⟩; have n0_ := Aside0.mk (Kd.R_below (by (with_reducible repeat (first | apply Kd.R_alloc | apply Kd.R_drewN | apply Kd.R_drew)); exact HO_5.out) hb); have n1_ := Aside0.mk (below_step (by repeat (first | (with_reducible first | exact HB.out | apply below_alloc | apply pw_below_drewN | apply below_drew1) | exact HB.out)) hb); clear HO_5; clear HB; have HO_5 := n0_; have HB := n1_; clear n0_ n1_; (try clear hb); (try clear hb2); (try clear hk); (try clear hi)) | ((with_reducible refine gate_dst (N := 7) rfl ?_); refine box_event ?hg (N := 7) ?hd (cs := #[.int .i64 0, .int .i64 0, .int .i64 0, .int .i64 0, .string (⟨#[]⟩ : ByteArray)]) (t := 24) ?hr ?_; (case hd => rfl); (case hg => rfl); (case hr => first | (go_simp; done) | (go_simp; rfl)); intro gb199 hg w12 hbox hb; have n0_ := Aside0.mk (Kd.R_below (Kd.R_elderB (by (with_reducible repeat (first | apply Kd.R_alloc | apply Kd.R_drewN | apply Kd.R_drew)); exact HO_5.out) gb199 (Nat.le_of_eq hg.symm)) hb); have n1_ := Aside0.mk (below_step (by repeat (first | (with_reducible first | exact HB.out | apply below_alloc | apply pw_below_drewN | apply below_drew1) | exact HB.out)) hb); have n2_ := Aside0.mk (hbox); have n3_ := Aside0.mk ((by rw [hg]; exact (below_size (by repeat (first | (with_reducible first | exact HB.out | apply below_alloc | apply pw_below_drewN | apply below_drew1) | exact HB.out))) : w.heap.size ≤ gb199)); have n4_ := Aside0.mk ((by rw [hg]; exact (below_size (by repeat (first | (with_reducible first | exact HB.out | apply below_alloc | apply pw_below_drewN | apply below_drew1) | exact HB.out))) : w.heap.size ≤ gb199)); clear HO_5; clear HB; have HO_5 := n0_; have HB := n1_; have BK199 := n2_; have GW199 := n3_; have GE199 := n4_; clear n0_ n1_ n2_ n3_ n4_; clear hb hbox hg; have hcz13_0 : w12.cell? ⟨gb199, 0, none⟩ = some (.int .i64 0) := (blk_cell BK199.out 0).trans rfl; have hcz13_1 : w12.cell? ⟨gb199, 1, none⟩ = some (.int .i64 0) := (blk_cell BK199.out 1).trans rfl; have hcz13_2 : w12.cell? ⟨gb199, 2, none⟩ = some (.int .i64 0) := (blk_cell BK199.out 2).trans rfl; have hcz13_3 : w12.cell? ⟨gb199, 3, none⟩ = some (.int .i64 0) := (blk_cell BK199.out 3).trans rfl; have hcz13_4 : w12.cell? ⟨gb199, 4, none⟩ = some (.string (⟨#[]⟩ : ByteArray)) := (blk_cell BK199.out 4).trans rfl; have hfz13_0 := blk_frozen BK199.out 0; have hfz13_1 := blk_frozen BK199.out 1; have hfz13_2 := blk_frozen BK199.out 2; have hfz13_3 := blk_frozen BK199.out 3; have hfz13_4 := blk_frozen BK199.out 4) | ((with_reducible refine gate_builtin (b := .append) (xs := #[.tmp 21, .tmp 23]) rfl ?_); at_builtin; refine Kd.R_append k24 (w0 := w) w.heap.size rfl (.tmp 21) (.tmp 23) 31 24 (.agg #[(.int .i64 0), (.int .i64 0), (.int .i64 0), (.int .i64 0), (.string ⟨#[]⟩)]) 48 rfl Try.underlying31 info24 rfl (by decide) (by omega) u5 x5_1 (⟨t193, t194, t195, t196, t197⟩ : S24) [.int .i64 t193, .int .i64 t194, .int .i64 t195, .int .i64 t196, .string t197] (fun k_ => k_ ≠ gb199) (fun _ => False) rfl (by first | (go_simp; done) | (go_simp; rfl)) ?aP (fun _ hk => hk.elim) ?aF ?aO ?aB ?aS ?aL ?_; (case aP => exact k24_mkM _ _ _ (⟨t193, t194, t195, t196, t197⟩ : S24)); (case aB => exact (by repeat (first | (with_reducible first | exact HB.out | apply below_alloc | apply pw_below_drewN | apply below_drew1 | refine below_set ?_ GE199.out) | exact HB.out))); (case aF => exact (fun k_ hk => Kd.freshB (g := gb199) (o := .cells #[.int .i64 t193, .int .i64 t194, .int .i64 t195, .int .i64 t196, .string t197] 24 (0, 0)) (by (with_reducible repeat (first | refine blk_drewN ?_ _ | refine blk_drew ?_ | refine blk_alloc ?_ _)); refine blk_put (cs := #[.int .i64 t193, .int .i64 t194, .int .i64 t195, .int .i64 t196, .string (⟨#[]⟩ : ByteArray)]) ?_ 4 _ rfl; (with_reducible repeat (first | refine blk_drewN ?_ _ | refine blk_drew ?_ | refine blk_alloc ?_ _)); refine blk_put (cs := #[.int .i64 t193, .int .i64 t194, .int .i64 t195, .int .i64 0, .string (⟨#[]⟩ : ByteArray)]) ?_ 3 _ rfl; (with_reducible repeat (first | refine blk_drewN ?_ _ | refine blk_drew ?_ | refine blk_alloc ?_ _)); refine blk_put (cs := #[.int .i64 t193, .int .i64 t194, .int .i64 0, .int .i64 0, .string (⟨#[]⟩ : ByteArray)]) ?_ 2 _ rfl; (with_reducible repeat (first | refine blk_drewN ?_ _ | refine blk_drew ?_ | refine blk_alloc ?_ _)); refine blk_put (cs := #[.int .i64 t193, .int .i64 0, .int .i64 0, .int .i64 0, .string (⟨#[]⟩ : ByteArray)]) ?_ 1 _ rfl; (with_reducible repeat (first | refine blk_drewN ?_ _ | refine blk_drew ?_ | refine blk_alloc ?_ _)); refine blk_put (cs := #[.int .i64 0, .int .i64 0, .int .i64 0, .int .i64 0, .string (⟨#[]⟩ : ByteArray)]) ?_ 0 _ rfl; (with_reducible repeat (first | refine blk_drewN ?_ _ | refine blk_drew ?_ | refine blk_alloc ?_ _)); exact BK199.out) k_ hk)); (case aO => exact (by (with_reducible repeat (first | apply Kd.R_alloc | apply Kd.R_drewN | apply Kd.R_drew)); exact Kd.R_mono (Kd.R_far (p := ⟨gb199, 4, none⟩) (Kd.R_far (p := ⟨gb199, 3, none⟩) (Kd.R_far (p := ⟨gb199, 2, none⟩) (Kd.R_far (p := ⟨gb199, 1, none⟩) (Kd.R_far (p := ⟨gb199, 0, none⟩) (Kd.R_mono HO_5.out (fun k_ hk => (⟨hk, hk.2⟩ : _ ∧ k_ ≠ gb199))) (fun _ hk => hk.2) (.int .i64 t193)) (fun _ hk => hk.2) (.int .i64 t194)) (fun _ hk => hk.2) (.int .i64 t195)) (fun _ hk => hk.2) (.int .i64 t196)) (fun _ hk => hk.2) (.string t197)) (fun _ hk => hk.1.2))); (case aS => exact (below_size (by repeat (first | (with_reducible first | exact HB.out | apply below_alloc | apply pw_below_drewN | apply below_drew1 | refine below_set ?_ GE199.out) | exact HB.out)))); (case aL => have := LMc4.out; omega); intro v201 w14 ho hb hg hat; rw [← Ny200.out] at ho; have n0_ := Aside0.mk (blk_grown (g := gb199) (o := .cells #[.int .i64 t193, .int .i64 t194, .int .i64 t195, .int .i64 t196, .string t197] 24 (0, 0)) (by (with_reducible repeat (first | refine blk_drewN ?_ _ | refine blk_drew ?_ | refine blk_alloc ?_ _)); refine blk_put (cs := #[.int .i64 t193, .int .i64 t194, .int .i64 t195, .int .i64 t196, .string (⟨#[]⟩ : ByteArray)]) ?_ 4 _ rfl; (with_reducible repeat (first | refine blk_drewN ?_ _ | refine blk_drew ?_ | refine blk_alloc ?_ _)); refine blk_put (cs := #[.int .i64 t193, .int .i64 t194, .int .i64 t195, .int .i64 0, .string (⟨#[]⟩ : ByteArray)]) ?_ 3 _ rfl; (with_reducible repeat (first | refine blk_drewN ?_ _ | refine blk_drew ?_ | refine blk_alloc ?_ _)); refine blk_put (cs := #[.int .i64 t193, .int .i64 t194, .int .i64 0, .int .i64 0, .string (⟨#[]⟩ : ByteArray)]) ?_ 2 _ rfl; (with_reducible repeat (first | refine blk_drewN ?_ _ | refine blk_drew ?_ | refine blk_alloc ?_ _)); refine blk_put (cs := #[.int .i64 t193, .int .i64 0, .int .i64 0, .int .i64 0, .string (⟨#[]⟩ : ByteArray)]) ?_ 1 _ rfl; (with_reducible repeat (first | refine blk_drewN ?_ _ | refine blk_drew ?_ | refine blk_alloc ?_ _)); refine blk_put (cs := #[.int .i64 0, .int .i64 0, .int .i64 0, .int .i64 0, .string (⟨#[]⟩ : ByteArray)]) ?_ 0 _ rfl; (with_reducible repeat (first | refine blk_drewN ?_ _ | refine blk_drew ?_ | refine blk_alloc ?_ _)); exact BK199.out) hg (Kd.R_away HO_5.out (fun _ hk => hk.2))); have n1_ := Aside0.mk (hb); have n2_ := Aside0.mk (ho); clear BK199; clear HB; clear HO_5; have BK199 := n0_; have HB := n1_; have HO202 := n2_; clear n0_ n1_ n2_; clear ho hb hg hat; have hcz15_0 : w14.cell? ⟨gb199, 0, none⟩ = some (.int .i64 t193) := (blk_cell BK199.out 0).trans rfl; have hcz15_1 : w14.cell? ⟨gb199, 1, none⟩ = some (.int .i64 t194) := (blk_cell BK199.out 1).trans rfl; have hcz15_2 : w14.cell? ⟨gb199, 2, none⟩ = some (.int .i64 t195) := (blk_cell BK199.out 2).trans rfl; have hcz15_3 : w14.cell? ⟨gb199, 3, none⟩ = some (.int .i64 t196) := (blk_cell BK199.out 3).trans rfl; have hcz15_4 : w14.cell? ⟨gb199, 4, none⟩ = some (.string t197) := (blk_cell BK199.out 4).trans rfl; have hfz15_0 := blk_frozen BK199.out 0; have hfz15_1 := blk_frozen BK199.out 1; have hfz15_2 := blk_frozen BK199.out 2; have hfz15_3 := blk_frozen BK199.out 3; have hfz15_4 := blk_frozen BK199.out 4)); try go_wp2_with (first | (go_at_call 8; (with_reducible refine (sealringref06_Next.calls k1 a0 x6_1 t193 t194 t195 t196 t197 t198 _ A2.out).mono ?_); rintro e w11 ⟨rfl, hb⟩; have n0_ := Aside0.mk (Kd.R_below (by (with_reducible repeat (first | apply Kd.R_alloc | apply Kd.R_drewN | apply Kd.R_drew)); exact HO_5.out) hb); have n1_ := Aside0.mk (below_step (by repeat (first | (with_reducible first | exact HB.out | apply below_alloc | apply pw_below_drewN | apply below_drew1) | exact HB.out)) hb); clear HO_5; clear HB; have HO_5 := n0_; have HB := n1_; clear n0_ n1_; (try clear hb); (try clear hb2); (try clear hk); (try clear hi)) | ((with_reducible refine gate_dst (N := 7) rfl ?_); refine box_event ?hg (N := 7) ?hd (cs := #[.int .i64 0, .int .i64 0, .int .i64 0, .int .i64 0, .string (⟨#[]⟩ : ByteArray)]) (t := 24) ?hr ?_; (case hd => rfl); (case hg => rfl); (case hr => first | (go_simp; done) | (go_simp; rfl)); intro gb199 hg w12 hbox hb; have n0_ := Aside0.mk (Kd.R_below (Kd.R_elderB (by (with_reducible repeat (first | apply Kd.R_alloc | apply Kd.R_drewN | apply Kd.R_drew)); exact HO_5.out) gb199 (Nat.le_of_eq hg.symm)) hb); have n1_ := Aside0.mk (below_step (by repeat (first | (with_reducible first | exact HB.out | apply below_alloc | apply pw_below_drewN | apply below_drew1) | exact HB.out)) hb); have n2_ := Aside0.mk (hbox); have n3_ := Aside0.mk ((by rw [hg]; exact (below_size (by repeat (first | (with_reducible first | exact HB.out | apply below_alloc | apply pw_below_drewN | apply below_drew1) | exact HB.out))) : w.heap.size ≤ gb199)); have n4_ := Aside0.mk ((by rw [hg]; exact (below_size (by repeat (first | (with_reducible first | exact HB.out | apply below_alloc | apply pw_below_drewN | apply below_drew1) | exact HB.out))) : w.heap.size ≤ gb199)); clear HO_5; clear HB; have HO_5 := n0_; have HB := n1_; have BK199 := n2_; have GW199 := n3_; have GE199 := n4_; clear n0_ n1_ n2_ n3_ n4_; clear hb hbox hg; have hcz13_0 : w12.cell? ⟨gb199, 0, none⟩ = some (.int .i64 0) := (blk_cell BK199.out 0).trans rfl; have hcz13_1 : w12.cell? ⟨gb199, 1, none⟩ = some (.int .i64 0) := (blk_cell BK199.out 1).trans rfl; have hcz13_2 : w12.cell? ⟨gb199, 2, none⟩ = some (.int .i64 0) := (blk_cell BK199.out 2).trans rfl; have hcz13_3 : w12.cell? ⟨gb199, 3, none⟩ = some (.int .i64 0) := (blk_cell BK199.out 3).trans rfl; have hcz13_4 : w12.cell? ⟨gb199, 4, none⟩ = some (.string (⟨#[]⟩ : ByteArray)) := (blk_cell BK199.out 4).trans rfl; have hfz13_0 := blk_frozen BK199.out 0; have hfz13_1 := blk_frozen BK199.out 1; have hfz13_2 := blk_frozen BK199.out 2; have hfz13_3 := blk_frozen BK199.out 3; have hfz13_4 := blk_frozen BK199.out 4) | ((with_reducible refine gate_builtin (b := .append) (xs := #[.tmp 21, .tmp 23]) rfl ?_); at_builtin; refine Kd.R_append k24 (w0 := w) w.heap.size rfl (.tmp 21) (.tmp 23) 31 24 (.agg #[(.int .i64 0), (.int .i64 0), (.int .i64 0), (.int .i64 0), (.string ⟨#[]⟩)]) 48 rfl Try.underlying31 info24 rfl (by decide) (by omega) u5 x5_1 (⟨t193, t194, t195, t196, t197⟩ : S24) [.int .i64 t193, .int .i64 t194, .int .i64 t195, .int .i64 t196, .string t197] (fun k_ => k_ ≠ gb199) (fun _ => False) rfl (by first | (go_simp; done) | (go_simp; rfl)) ?aP (fun _ hk => hk.elim) ?aF ?aO ?aB ?aS ?aL ?_; (case aP => exact k24_mkM _ _ _ (⟨t193, t194, t195, t196, t197⟩ : S24)); (case aB => exact (by repeat (first | (with_reducible first | exact HB.out | apply below_alloc | apply pw_below_drewN | apply below_drew1 | refine below_set ?_ GE199.out) | exact HB.out))); (case aF => exact (fun k_ hk => Kd.freshB (g := gb199) (o := .cells #[.int .i64 t193, .int .i64 t194, .int .i64 t195, .int .i64 t196, .string t197] 24 (0, 0)) (by (with_reducible repeat (first | refine blk_drewN ?_ _ | refine blk_drew ?_ | refine blk_alloc ?_ _)); refine blk_put (cs := #[.int .i64 t193, .int .i64 t194, .int .i64 t195, .int .i64 t196, .string (⟨#[]⟩ : ByteArray)]) ?_ 4 _ rfl; (with_reducible repeat (first | refine blk_drewN ?_ _ | refine blk_drew ?_ | refine blk_alloc ?_ _)); refine blk_put (cs := #[.int .i64 t193, .int .i64 t194, .int .i64 t195, .int .i64 0, .string (⟨#[]⟩ : ByteArray)]) ?_ 3 _ rfl; (with_reducible repeat (first | refine blk_drewN ?_ _ | refine blk_drew ?_ | refine blk_alloc ?_ _)); refine blk_put (cs := #[.int .i64 t193, .int .i64 t194, .int .i64 0, .int .i64 0, .string (⟨#[]⟩ : ByteArray)]) ?_ 2 _ rfl; (with_reducible repeat (first | refine blk_drewN ?_ _ | refine blk_drew ?_ | refine blk_alloc ?_ _)); refine blk_put (cs := #[.int .i64 t193, .int .i64 0, .int .i64 0, .int .i64 0, .string (⟨#[]⟩ : ByteArray)]) ?_ 1 _ rfl; (with_reducible repeat (first | refine blk_drewN ?_ _ | refine blk_drew ?_ | refine blk_alloc ?_ _)); refine blk_put (cs := #[.int .i64 0, .int .i64 0, .int .i64 0, .int .i64 0, .string (⟨#[]⟩ : ByteArray)]) ?_ 0 _ rfl; (with_reducible repeat (first | refine blk_drewN ?_ _ | refine blk_drew ?_ | refine blk_alloc ?_ _)); exact BK199.out) k_ hk)); (case aO => exact (by (with_reducible repeat (first | apply Kd.R_alloc | apply Kd.R_drewN | apply Kd.R_drew)); exact Kd.R_mono (Kd.R_far (p := ⟨gb199, 4, none⟩) (Kd.R_far (p := ⟨gb199, 3, none⟩) (Kd.R_far (p := ⟨gb199, 2, none⟩) (Kd.R_far (p := ⟨gb199, 1, none⟩) (Kd.R_far (p := ⟨gb199, 0, none⟩) (Kd.R_mono HO_5.out (fun k_ hk => (⟨hk, hk.2⟩ : _ ∧ k_ ≠ gb199))) (fun _ hk => hk.2) (.int .i64 t193)) (fun _ hk => hk.2) (.int .i64 t194)) (fun _ hk => hk.2) (.int .i64 t195)) (fun _ hk => hk.2) (.int .i64 t196)) (fun _ hk => hk.2) (.string t197)) (fun _ hk => hk.1.2))); (case aS => exact (below_size (by repeat (first | (with_reducible first | exact HB.out | apply below_alloc | apply pw_below_drewN | apply below_drew1 | refine below_set ?_ GE199.out) | exact HB.out)))); (case aL => have := LMc4.out; omega); intro v201 w14 ho hb hg hat; rw [← Ny200.out] at ho; have n0_ := Aside0.mk (blk_grown (g := gb199) (o := .cells #[.int .i64 t193, .int .i64 t194, .int .i64 t195, .int .i64 t196, .string t197] 24 (0, 0)) (by (with_reducible repeat (first | refine blk_drewN ?_ _ | refine blk_drew ?_ | refine blk_alloc ?_ _)); refine blk_put (cs := #[.int .i64 t193, .int .i64 t194, .int .i64 t195, .int .i64 t196, .string (⟨#[]⟩ : ByteArray)]) ?_ 4 _ rfl; (with_reducible repeat (first | refine blk_drewN ?_ _ | refine blk_drew ?_ | refine blk_alloc ?_ _)); refine blk_put (cs := #[.int .i64 t193, .int .i64 t194, .int .i64 t195, .int .i64 0, .string (⟨#[]⟩ : ByteArray)]) ?_ 3 _ rfl; (with_reducible repeat (first | refine blk_drewN ?_ _ | refine blk_drew ?_ | refine blk_alloc ?_ _)); refine blk_put (cs := #[.int .i64 t193, .int .i64 t194, .int .i64 0, .int .i64 0, .string (⟨#[]⟩ : ByteArray)]) ?_ 2 _ rfl; (with_reducible repeat (first | refine blk_drewN ?_ _ | refine blk_drew ?_ | refine blk_alloc ?_ _)); refine blk_put (cs := #[.int .i64 t193, .int .i64 0, .int .i64 0, .int .i64 0, .string (⟨#[]⟩ : ByteArray)]) ?_ 1 _ rfl; (with_reducible repeat (first | refine blk_drewN ?_ _ | refine blk_drew ?_ | refine blk_alloc ?_ _)); refine blk_put (cs := #[.int .i64 0, .int .i64 0, .int .i64 0, .int .i64 0, .string (⟨#[]⟩ : ByteArray)]) ?_ 0 _ rfl; (with_reducible repeat (first | refine blk_drewN ?_ _ | refine blk_drew ?_ | refine blk_alloc ?_ _)); exact BK199.out) hg (Kd.R_away HO_5.out (fun _ hk => hk.2))); have n1_ := Aside0.mk (hb); have n2_ := Aside0.mk (ho); clear BK199; clear HB; clear HO_5; have BK199 := n0_; have HB := n1_; have HO202 := n2_; clear n0_ n1_ n2_; clear ho hb hg hat; have hcz15_0 : w14.cell? ⟨gb199, 0, none⟩ = some (.int .i64 t193) := (blk_cell BK199.out 0).trans rfl; have hcz15_1 : w14.cell? ⟨gb199, 1, none⟩ = some (.int .i64 t194) := (blk_cell BK199.out 1).trans rfl; have hcz15_2 : w14.cell? ⟨gb199, 2, none⟩ = some (.int .i64 t195) := (blk_cell BK199.out 2).trans rfl; have hcz15_3 : w14.cell? ⟨gb199, 3, none⟩ = some (.int .i64 t196) := (blk_cell BK199.out 3).trans rfl; have hcz15_4 : w14.cell? ⟨gb199, 4, none⟩ = some (.string t197) := (blk_cell BK199.out 4).trans rfl; have hfz15_0 := blk_frozen BK199.out 0; have hfz15_1 := blk_frozen BK199.out 1; have hfz15_2 := blk_frozen BK199.out 2; have hfz15_3 := blk_frozen BK199.out 3; have hfz15_4 := blk_frozen BK199.out 4)))
            go_roundg k1
            case measure => have := HK1.out; omega
            case rel => exact ⟨(y200), (t195), (by first | rfl | (simp; done) | (simp [*]; done) | (simp [wrap64]; done)), (by first | with_reducible exact H' | exact H' | (subst_vars; exact H')), ⟨by have := HK1.out; omega⟩, ⟨by (with_reducible repeat (first | apply Kd.R_alloc | apply Kd.R_drewN | apply Kd.R_drew)); exact Kd.R_mono HO202.out (fun _ hk => trivial)⟩, ⟨by repeat (first | (with_reducible first | exact HB.out | apply below_alloc | apply pw_below_drewN | apply below_drew1 | refine below_set ?_ GE199.out) | exact HB.out)⟩⟩
        · rw [if_neg c4] at H
          exact absurd H (by simp)
      · rw [if_neg c3] at H
        have c3b0 : (t198 == 0) = false := beq_eq_false_iff_ne.mpr c3
        have c3b1 : (t198 != 0) = true := bne_iff_ne.mpr c3
        simp only [Option.some.injEq, Prod.mk.injEq] at H
        obtain ⟨rfl, rfl, rfl⟩ := H
        go_wp2_with (first | (go_at_call 8; (with_reducible refine (sealringref06_Next.calls k1 a0 x6_1 t193 t194 t195 t196 t197 t198 _ A2.out).mono ?_); rintro e w16 ⟨rfl, hb⟩; have n0_ := Aside0.mk (Kd.R_below (by (with_reducible repeat (first | apply Kd.R_alloc | apply Kd.R_drewN | apply Kd.R_drew)); exact HO_5.out) hb); have n1_ := Aside0.mk (below_step (by repeat (first | (with_reducible first | exact HB.out | apply below_alloc | apply pw_below_drewN | apply below_drew1) | exact HB.out)) hb); clear HO_5; clear HB; have HO_5 := n0_; have HB := n1_; clear n0_ n1_; (try clear hb); (try clear hb2); (try clear hk); (try clear hi)) | ((with_reducible refine gate_dst (N := 7) rfl ?_); refine box_event ?hg (N := 7) ?hd (cs := #[.int .i64 0, .int .i64 0, .int .i64 0, .int .i64 0, .string (⟨#[]⟩ : ByteArray)]) (t := 24) ?hr ?_; (case hd => rfl); (case hg => rfl); (case hr => first | (go_simp; done) | (go_simp; rfl)); intro gb199 hg w17 hbox hb; have n0_ := Aside0.mk (Kd.R_below (Kd.R_elderB (by (with_reducible repeat (first | apply Kd.R_alloc | apply Kd.R_drewN | apply Kd.R_drew)); exact HO_5.out) gb199 (Nat.le_of_eq hg.symm)) hb); have n1_ := Aside0.mk (below_step (by repeat (first | (with_reducible first | exact HB.out | apply below_alloc | apply pw_below_drewN | apply below_drew1) | exact HB.out)) hb); have n2_ := Aside0.mk (hbox); have n3_ := Aside0.mk ((by rw [hg]; exact (below_size (by repeat (first | (with_reducible first | exact HB.out | apply below_alloc | apply pw_below_drewN | apply below_drew1) | exact HB.out))) : w.heap.size ≤ gb199)); have n4_ := Aside0.mk ((by rw [hg]; exact (below_size (by repeat (first | (with_reducible first | exact HB.out | apply below_alloc | apply pw_below_drewN | apply below_drew1) | exact HB.out))) : w.heap.size ≤ gb199)); clear HO_5; clear HB; have HO_5 := n0_; have HB := n1_; have BK199 := n2_; have GW199 := n3_; have GE199 := n4_; clear n0_ n1_ n2_ n3_ n4_; clear hb hbox hg; have hcz18_0 : w17.cell? ⟨gb199, 0, none⟩ = some (.int .i64 0) := (blk_cell BK199.out 0).trans rfl; have hcz18_1 : w17.cell? ⟨gb199, 1, none⟩ = some (.int .i64 0) := (blk_cell BK199.out 1).trans rfl; have hcz18_2 : w17.cell? ⟨gb199, 2, none⟩ = some (.int .i64 0) := (blk_cell BK199.out 2).trans rfl; have hcz18_3 : w17.cell? ⟨gb199, 3, none⟩ = some (.int .i64 0) := (blk_cell BK199.out 3).trans rfl; have hcz18_4 : w17.cell? ⟨gb199, 4, none⟩ = some (.string (⟨#[]⟩ : ByteArray)) := (blk_cell BK199.out 4).trans rfl; have hfz18_0 := blk_frozen BK199.out 0; have hfz18_1 := blk_frozen BK199.out 1; have hfz18_2 := blk_frozen BK199.out 2; have hfz18_3 := blk_frozen BK199.out 3; have hfz18_4 := blk_frozen BK199.out 4))
        repeat (go_quiet (first | (go_at_call 8; (with_reducible refine (sealringref06_Next.calls k1 a0 x6_1 t193 t194 t195 t196 t197 t198 _ A2.out).mono ?_); rintro e w16 ⟨rfl, hb⟩; have n0_ := Aside0.mk (Kd.R_below (by (with_reducible repeat (first | apply Kd.R_alloc | apply Kd.R_drewN | apply Kd.R_drew)); exact HO_5.out) hb); have n1_ := Aside0.mk (below_step (by repeat (first | (with_reducible first | exact HB.out | apply below_alloc | apply pw_below_drewN | apply below_drew1) | exact HB.out)) hb); clear HO_5; clear HB; have HO_5 := n0_; have HB := n1_; clear n0_ n1_; (try clear hb); (try clear hb2); (try clear hk); (try clear hi)) | ((with_reducible refine gate_dst (N := 7) rfl ?_); refine box_event ?hg (N := 7) ?hd (cs := #[.int .i64 0, .int .i64 0, .int .i64 0, .int .i64 0, .string (⟨#[]⟩ : ByteArray)]) (t := 24) ?hr ?_; (case hd => rfl); (case hg => rfl); (case hr => first | (go_simp; done) | (go_simp; rfl)); intro gb199 hg w17 hbox hb; have n0_ := Aside0.mk (Kd.R_below (Kd.R_elderB (by (with_reducible repeat (first | apply Kd.R_alloc | apply Kd.R_drewN | apply Kd.R_drew)); exact HO_5.out) gb199 (Nat.le_of_eq hg.symm)) hb); have n1_ := Aside0.mk (below_step (by repeat (first | (with_reducible first | exact HB.out | apply below_alloc | apply pw_below_drewN | apply below_drew1) | exact HB.out)) hb); have n2_ := Aside0.mk (hbox); have n3_ := Aside0.mk ((by rw [hg]; exact (below_size (by repeat (first | (with_reducible first | exact HB.out | apply below_alloc | apply pw_below_drewN | apply below_drew1) | exact HB.out))) : w.heap.size ≤ gb199)); have n4_ := Aside0.mk ((by rw [hg]; exact (below_size (by repeat (first | (with_reducible first | exact HB.out | apply below_alloc | apply pw_below_drewN | apply below_drew1) | exact HB.out))) : w.heap.size ≤ gb199)); clear HO_5; clear HB; have HO_5 := n0_; have HB := n1_; have BK199 := n2_; have GW199 := n3_; have GE199 := n4_; clear n0_ n1_ n2_ n3_ n4_; clear hb hbox hg; have hcz18_0 : w17.cell? ⟨gb199, 0, none⟩ = some (.int .i64 0) := (blk_cell BK199.out 0).trans rfl; have hcz18_1 : w17.cell? ⟨gb199, 1, none⟩ = some (.int .i64 0) := (blk_cell BK199.out 1).trans rfl; have hcz18_2 : w17.cell? ⟨gb199, 2, none⟩ = some (.int .i64 0) := (blk_cell BK199.out 2).trans rfl; have hcz18_3 : w17.cell? ⟨gb199, 3, none⟩ = some (.int .i64 0) := (blk_cell BK199.out 3).trans rfl; have hcz18_4 : w17.cell? ⟨gb199, 4, none⟩ = some (.string (⟨#[]⟩ : ByteArray)) := (blk_cell BK199.out 4).trans rfl; have hfz18_0 := blk_frozen BK199.out 0; have hfz18_1 := blk_frozen BK199.out 1; have hfz18_2 := blk_frozen BK199.out 2; have hfz18_3 := blk_frozen BK199.out 3; have hfz18_4 := blk_frozen BK199.out 4)); try go_wp2_with (first | (go_at_call 8; (with_reducible refine (sealringref06_Next.calls k1 a0 x6_1 t193 t194 t195 t196 t197 t198 _ A2.out).mono ?_); rintro e w16 ⟨rfl, hb⟩; have n0_ := Aside0.mk (Kd.R_below (by (with_reducible repeat (first | apply Kd.R_alloc | apply Kd.R_drewN | apply Kd.R_drew)); exact HO_5.out) hb); have n1_ := Aside0.mk (below_step (by repeat (first | (with_reducible first | exact HB.out | apply below_alloc | apply pw_below_drewN | apply below_drew1) | exact HB.out)) hb); clear HO_5; clear HB; have HO_5 := n0_; have HB := n1_; clear n0_ n1_; (try clear hb); (try clear hb2); (try clear hk); (try clear hi)) | ((with_reducible refine gate_dst (N := 7) rfl ?_); refine box_event ?hg (N := 7) ?hd (cs := #[.int .i64 0, .int .i64 0, .int .i64 0, .int .i64 0, .string (⟨#[]⟩ : ByteArray)]) (t := 24) ?hr ?_; (case hd => rfl); (case hg => rfl); (case hr => first | (go_simp; done) | (go_simp; rfl)); intro gb199 hg w17 hbox hb; have n0_ := Aside0.mk (Kd.R_below (Kd.R_elderB (by (with_reducible repeat (first | apply Kd.R_alloc | apply Kd.R_drewN | apply Kd.R_drew)); exact HO_5.out) gb199 (Nat.le_of_eq hg.symm)) hb); have n1_ := Aside0.mk (below_step (by repeat (first | (with_reducible first | exact HB.out | apply below_alloc | apply pw_below_drewN | apply below_drew1) | exact HB.out)) hb); have n2_ := Aside0.mk (hbox); have n3_ := Aside0.mk ((by rw [hg]; exact (below_size (by repeat (first | (with_reducible first | exact HB.out | apply below_alloc | apply pw_below_drewN | apply below_drew1) | exact HB.out))) : w.heap.size ≤ gb199)); have n4_ := Aside0.mk ((by rw [hg]; exact (below_size (by repeat (first | (with_reducible first | exact HB.out | apply below_alloc | apply pw_below_drewN | apply below_drew1) | exact HB.out))) : w.heap.size ≤ gb199)); clear HO_5; clear HB; have HO_5 := n0_; have HB := n1_; have BK199 := n2_; have GW199 := n3_; have GE199 := n4_; clear n0_ n1_ n2_ n3_ n4_; clear hb hbox hg; have hcz18_0 : w17.cell? ⟨gb199, 0, none⟩ = some (.int .i64 0) := (blk_cell BK199.out 0).trans rfl; have hcz18_1 : w17.cell? ⟨gb199, 1, none⟩ = some (.int .i64 0) := (blk_cell BK199.out 1).trans rfl; have hcz18_2 : w17.cell? ⟨gb199, 2, none⟩ = some (.int .i64 0) := (blk_cell BK199.out 2).trans rfl; have hcz18_3 : w17.cell? ⟨gb199, 3, none⟩ = some (.int .i64 0) := (blk_cell BK199.out 3).trans rfl; have hcz18_4 : w17.cell? ⟨gb199, 4, none⟩ = some (.string (⟨#[]⟩ : ByteArray)) := (blk_cell BK199.out 4).trans rfl; have hfz18_0 := blk_frozen BK199.out 0; have hfz18_1 := blk_frozen BK199.out 1; have hfz18_2 := blk_frozen BK199.out 2; have hfz18_3 := blk_frozen BK199.out 3; have hfz18_4 := blk_frozen BK199.out 4)))
        go_ret3
        exact ⟨_, by first | rfl | (simp [errW_none, errW_some] <;> rfl) | (simp [*, errW_none, errW_some] <;> rfl), by (with_reducible repeat (first | apply Kd.R_alloc | apply Kd.R_drewN | apply Kd.R_drew)); exact Kd.R_mono (Kd.R_far (p := ⟨gb199, 4, none⟩) (Kd.R_far (p := ⟨gb199, 3, none⟩) (Kd.R_far (p := ⟨gb199, 2, none⟩) (Kd.R_far (p := ⟨gb199, 1, none⟩) (Kd.R_far (p := ⟨gb199, 0, none⟩) (Kd.R_mono HO_5.out (fun k_ hk => (⟨hk, hk.2⟩ : _ ∧ k_ ≠ gb199))) (fun _ hk => hk.2) (.int .i64 t193)) (fun _ hk => hk.2) (.int .i64 t194)) (fun _ hk => hk.2) (.int .i64 t195)) (fun _ hk => hk.2) (.int .i64 t196)) (fun _ hk => hk.2) (.string t197)) (fun _ hk => trivial), by repeat (first | (with_reducible first | exact HB.out | apply below_alloc | apply pw_below_drewN | apply below_drew1 | refine below_set ?_ GE199.out) | exact HB.out)⟩
end Go.Proofs.Ytjdgjifacdnkgaa.X
end
section
namespace Go.Proofs.Ytjdgjifacdnkgaa.X
open Go.RowKit Go.Proofs.YtjdgjifacdnkgaaW.PrintWords Go.Proofs.YtjdgjifacdnkgaaW.PrintLast Go.Proofs.YtjdgjifacdnkgaaW.PrintMore
attribute [local go_sem] max2_int min2_int max_two min_two max_three min_three max_four min_four
set_option linter.unusedVariables false
set_option linter.unusedSimpArgs false
theorem eqA24 (d : Nat) (w : World) (x0 y0 : Int) (x1 y1 : Int) (x2 y2 : Int) (x3 y3 : Int) (x4 y4 : ByteArray) :
    (Op.equalIn (d + 2) 24 (.agg #[.int .i64 x0, .int .i64 x1, .int .i64 x2, .int .i64 x3, .string x4]) (.agg #[.int .i64 y0, .int .i64 y1, .int .i64 y2, .int .i64 y3, .string y4])).run Try.prog w = .ok (x0 == y0 && (x1 == y1 && (x2 == y2 && (x3 == y3 && (x4.toList == y4.toList))))) w := by
  refine eqA_of Try.underlying24 (by kernel_rfl) ?_
  refine eqf_cons (by rfl) (by go_simp; rfl) (by go_simp; rfl) (by go_simp) ?_
  refine eqf_cons (by rfl) (by go_simp; rfl) (by go_simp; rfl) (by go_simp) ?_
  refine eqf_cons (by rfl) (by go_simp; rfl) (by go_simp; rfl) (by go_simp) ?_
  refine eqf_cons (by rfl) (by go_simp; rfl) (by go_simp; rfl) (by go_simp) ?_
  exact eqf_last (by rfl) (by go_simp; rfl) (by go_simp; rfl) (by go_simp)
end Go.Proofs.Ytjdgjifacdnkgaa.X
end
