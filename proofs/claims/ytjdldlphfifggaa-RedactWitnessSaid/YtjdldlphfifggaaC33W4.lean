import Derived.Test.YtjdldlphfifggaaC33W3
import Derived.RangeFuncNested
import Derived.RangeFuncBound
import Derived.RangeFuncCalls
import Derived.RangeFuncLeaves
import Derived.Shelf.Abstract
import Derived.Shelf.RegionOpen
import Derived.WalkKit
import Derived.OwnWalkIn
import Derived.TacticsInMore
import Derived.LoopNIn
import Derived.LoopIn
section
namespace Go.Proofs.Ytjdldlphfifggaa.X
open Go.RowKit Go.Proofs.YtjdldlphfifggaaW.PrintWords Go.Proofs.YtjdldlphfifggaaW.PrintLast Go.Proofs.YtjdldlphfifggaaW.PrintMore
attribute [local go_sem] max2_int min2_int max_two min_two max_three min_three max_four min_four
set_option linter.unusedVariables false
set_option linter.unusedSimpArgs false
mutual
def sealringref03_Next.j0 : Nat → ByteArray → Int → Bool → Option (Int × Int)
  | 0, _, _, _ => none
  | k + 1, x0, x1, x15 => if x15 = true then (some (0, 0)) else (sealringref03_Next.l0 k x0 x1 1)
def sealringref03_Next.l0 : Nat → ByteArray → Int → Int → Option (Int × Int)
  | 0, _, _, _ => none
  | k + 1, x0, x1, x6 => if x6 ≤ 4 then (sealringref03_Next.j2 k x0 x1 x6 (decide (x6 ≤ (wrap64 ((x0.size : Int) - x1))))) else (sealringref03_Next.j2 k x0 x1 x6 false)
def sealringref03_Next.j2 : Nat → ByteArray → Int → Int → Bool → Option (Int × Int)
  | 0, _, _, _, _ => none
  | k + 1, x0, x1, x6, x25 => if x25 = true then (if 0 ≤ x1 then (if x1 ≤ (wrap64 (x1 + x6)) then (if (wrap64 (x1 + x6)) ≤ (x0.size : Int) then ((sealringref03_loose.f k (x0.extract (x1 : Int).toNat ((wrap64 (x1 + x6)) : Int).toNat)).bind fun t379 => ((sealringref03_Is.f t379).bind fun t380 => (if t380 = true then ((sealringref03_Form.f t379).bind fun t381 => (if t381.toList = (x0.extract (x1 : Int).toNat ((wrap64 (x1 + x6)) : Int).toNat).toList then (some (t379, x6)) else (sealringref03_Next.l0 k x0 x1 (wrap64 (x6 + 1))))) else (sealringref03_Next.l0 k x0 x1 (wrap64 (x6 + 1)))))) else (none)) else (none)) else (none)) else (some (0, 0))
end
def sealringref03_Next.f (k : Nat) (a0 : ByteArray) (a1 : Int) : Option (Int × Int) := if a1 < 0 then (sealringref03_Next.j0 k a0 a1 true) else (sealringref03_Next.j0 k a0 a1 (decide (a1 ≥ (a0.size : Int))))
theorem sealringref03_Next.mono_l : ∀ k, (∀ y0 y1 y2, LeO (sealringref03_Next.j0 k y0 y1 y2) (sealringref03_Next.j0 (k + 1) y0 y1 y2)) ∧ (∀ y0 y1 y2, LeO (sealringref03_Next.l0 k y0 y1 y2) (sealringref03_Next.l0 (k + 1) y0 y1 y2)) ∧ (∀ y0 y1 y2 y3, LeO (sealringref03_Next.j2 k y0 y1 y2 y3) (sealringref03_Next.j2 (k + 1) y0 y1 y2 y3))
  | 0 => ⟨fun _ _ _ r h => by simp [sealringref03_Next.j0] at h, fun _ _ _ r h => by simp [sealringref03_Next.l0] at h, fun _ _ _ _ r h => by simp [sealringref03_Next.j2] at h⟩
  | k + 1 => by
    obtain ⟨ih0, ih1, ih2⟩ := sealringref03_Next.mono_l k
    refine ⟨?_, ?_, ?_⟩
    · intro y0 y1 y2
      unfold sealringref03_Next.j0
      repeat' first
      | (with_reducible exact ih0 _ _ _)
      | (with_reducible exact ih1 _ _ _)
      | (with_reducible exact ih2 _ _ _ _)
      | (with_reducible exact sealringref03_loose.mono _ _)
      | (with_reducible exact LeO.refl _)
      | (with_reducible exact LeO.none _)
      | (with_reducible refine LeO.ite ?_ ?_)
      | (with_reducible refine LeO.bind ?_ (fun _ => ?_))
      | exact ih0 _ _ _
      | exact ih1 _ _ _
      | exact ih2 _ _ _ _
      | exact sealringref03_loose.mono _ _
      | exact LeO.none _
      | refine LeO.ite ?_ ?_
      | refine LeO.bind ?_ (fun _ => ?_)
    · intro y0 y1 y2
      unfold sealringref03_Next.l0
      repeat' first
      | (with_reducible exact ih0 _ _ _)
      | (with_reducible exact ih1 _ _ _)
      | (with_reducible exact ih2 _ _ _ _)
      | (with_reducible exact sealringref03_loose.mono _ _)
      | (with_reducible exact LeO.refl _)
      | (with_reducible exact LeO.none _)
      | (with_reducible refine LeO.ite ?_ ?_)
      | (with_reducible refine LeO.bind ?_ (fun _ => ?_))
      | exact ih0 _ _ _
      | exact ih1 _ _ _
      | exact ih2 _ _ _ _
      | exact sealringref03_loose.mono _ _
      | exact LeO.none _
      | refine LeO.ite ?_ ?_
      | refine LeO.bind ?_ (fun _ => ?_)
    · intro y0 y1 y2 y3
      unfold sealringref03_Next.j2
      repeat' first
      | (with_reducible exact ih0 _ _ _)
      | (with_reducible exact ih1 _ _ _)
      | (with_reducible exact ih2 _ _ _ _)
      | (with_reducible exact sealringref03_loose.mono _ _)
      | (with_reducible exact LeO.refl _)
      | (with_reducible exact LeO.none _)
      | (with_reducible refine LeO.ite ?_ ?_)
      | (with_reducible refine LeO.bind ?_ (fun _ => ?_))
      | exact ih0 _ _ _
      | exact ih1 _ _ _
      | exact ih2 _ _ _ _
      | exact sealringref03_loose.mono _ _
      | exact LeO.none _
      | refine LeO.ite ?_ ?_
      | refine LeO.bind ?_ (fun _ => ?_)
theorem sealringref03_Next.mono : ∀ a0 a1 k, LeO (sealringref03_Next.f k a0 a1) (sealringref03_Next.f (k + 1) a0 a1) := by
  intro a0 a1 k
  obtain ⟨ih0, ih1, ih2⟩ := sealringref03_Next.mono_l k
  unfold sealringref03_Next.f
  repeat' first
      | (with_reducible exact ih0 _ _ _)
      | (with_reducible exact ih1 _ _ _)
      | (with_reducible exact ih2 _ _ _ _)
      | (with_reducible exact sealringref03_loose.mono _ _)
      | (with_reducible exact LeO.refl _)
      | (with_reducible exact LeO.none _)
      | (with_reducible refine LeO.ite ?_ ?_)
      | (with_reducible refine LeO.bind ?_ (fun _ => ?_))
      | exact ih0 _ _ _
      | exact ih1 _ _ _
      | exact ih2 _ _ _ _
      | exact sealringref03_loose.mono _ _
      | exact LeO.none _
      | refine LeO.ite ?_ ?_
      | refine LeO.bind ?_ (fun _ => ?_)
def sealringref03_Next.T7 : Bool × List (List Nat × List Nat) := (true, [([], []), ([0], [0]), ([1, 1], [1]), ([2], [2]), ([3, 2, 2], [2, 3]), ([2], [2]), ([2], [2]), ([2], [2]), ([2], [2]), ([7, 8, 2], [2, 7, 8]), ([5, 6, 9, 2], [2, 5, 6, 9]), ([4, 10, 2], [2, 4, 10]), ([2, 11], [2, 11])])
def sealringref03_Next.B7 : List Nat := [0, 1, 3, 7, 15, 7, 7, 7, 7, 391, 999, 2047, 4095]
theorem sealringref03_Next.tab7 : rtab .any (opsOf Try.f152 7) = sealringref03_Next.T7 := by kernel_rfl
theorem sealringref03_Next.bits7 : waitsOk sealringref03_Next.T7.2 sealringref03_Next.B7 = true := by kernel_rfl
set_option maxHeartbeats 8000000 in
set_option maxRecDepth 100000 in
theorem sealringref03_Next.calls (k : Nat) (a0 : ByteArray) (a1 : Int) (r1 : Int) (r2 : Int) (w : World) (h : sealringref03_Next.f k a0 a1 = some (r1, r2)) :
    Calls Try.prog 152 #[.string a0, .int .i64 a1] w fun e w' => e = .returned (.tuple #[.int .i64 r1, .int .i64 r2]) ∧ Below w.heap.size w w' := by
  have HB := Aside0.mk (Below.refl w.heap.size w)
  have H : (if a1 < 0 then (sealringref03_Next.j0 k a0 a1 true) else (sealringref03_Next.j0 k a0 a1 (decide (a1 ≥ (a0.size : Int))))) = some (r1, r2) := h
  clear h
  have HC3 := Aside0.mk H
  clear H
  go_enter Try.func152, Try.ntmps152
  go_upto_region 1 with (fail)
  go_cut [15] (fun v15 wc => ∃ (kq : Nat) (x15_2 : Bool), v15 = .bool x15_2 ∧ Aside0 (sealringref03_Next.j0 kq a0 a1 x15_2 = some (r1, r2)) ∧ Aside0 (kq ≤ k) ∧ Aside0 (Below w.heap.size w wc))
  case first =>
    have H := HC3.out
    clear HC3
    by_cases c4 : a1 < 0
    · rw [if_pos c4] at H
      have c4b0 : decide (a1 < 0) = true := decide_eq_true c4
      clear c4
      (first | rw [c4b0] | (simp only [i64_w, i32_w]; rw [c4b0]) | skip)
      have H' := Aside0.mk H
      clear H
      go_wp2
      go_meet
      case rel => exact ⟨_, (true), (by first | rfl | (simp; done) | (simp [*]; done)), (by first | with_reducible exact H' | exact H' | (subst_vars; exact H')), ⟨by first | omega | exact Nat.le_refl _⟩, ⟨by repeat (first | (with_reducible first | exact HB.out | apply below_alloc | apply pw_below_drewN | apply below_drew1) | exact HB.out)⟩⟩
    · rw [if_neg c4] at H
      have c4b0 : decide (a1 < 0) = false := decide_eq_false c4
      clear c4
      (first | rw [c4b0] | (simp only [i64_w, i32_w]; rw [c4b0]) | skip)
      have H' := Aside0.mk H
      clear H
      go_wp2
      go_meet
      case rel => exact ⟨_, (decide (a1 ≥ (a0.size : Int))), (by first | rfl | (simp; done) | (simp [*]; done)), (by first | with_reducible exact H' | exact H' | (subst_vars; exact H')), ⟨by first | omega | exact Nat.le_refl _⟩, ⟨by repeat (first | (with_reducible first | exact HB.out | apply below_alloc | apply pw_below_drewN | apply below_drew1) | exact HB.out)⟩⟩
  case rest =>
    clear HC3
    try clear c1
    try clear p2
    try clear c4
    try clear c4b0
    obtain ⟨kq, x15_2, rfl, HA, HJ2, HB⟩ := hcut
    cases kq with
    | zero => exact absurd HA.out (by simp [sealringref03_Next.j0])
    | succ kj2 =>
      have H := HA.out
      clear HA
      simp only [sealringref03_Next.j0] at H
      by_cases c5 : x15_2 = true
      · subst c5
        have H1 : (some (0, 0)) = some (r1, r2) := by rw [if_pos rfl] at H; exact H
        clear H
        have H := H1
        clear H1
        simp only [Option.some.injEq, Prod.mk.injEq] at H
        obtain ⟨rfl, rfl⟩ := H
        go_wp2
        go_ret2
        exact ⟨by first | rfl | (simp [errW_none, errW_some] <;> rfl) | (simp [*, errW_none, errW_some] <;> rfl), by repeat (first | (with_reducible first | exact HB.out | apply below_alloc | apply pw_below_drewN | apply below_drew1) | exact HB.out)⟩
      · replace c5 := Bool.eq_false_iff.mpr c5
        subst c5
        have H1 : (sealringref03_Next.l0 kj2 a0 a1 1) = some (r1, r2) := by rw [if_neg (show ¬ (false = true) by decide)] at H; exact H
        clear H
        have H := H1
        clear H1
        have H' := Aside0.mk H
        clear H
        go_wp2
        go_loopg [6] kj2 (fun kq v6 w' => ∃ (x6_2 : Int), v6 = .int .i64 x6_2 ∧ Aside0 (sealringref03_Next.l0 kq a0 a1 x6_2 = some (r1, r2)) ∧ Aside0 (kq ≤ kj2) ∧ Aside0 (Below w.heap.size w w'))
        case atStart => exact ⟨(1), (by first | rfl | (simp; done) | (simp [*]; done)), (by first | with_reducible exact H' | exact H' | (subst_vars; exact H')), ⟨Nat.le_refl _⟩, ⟨by repeat (first | (with_reducible first | exact HB.out | apply below_alloc | apply pw_below_drewN | apply below_drew1) | exact HB.out)⟩⟩
        case round =>
          clear H'
          try clear c1
          try clear p2
          try clear c4
          try clear c4b0
          try clear c5
          try clear p2
          obtain ⟨x6_2, rfl, HA, HK2, HB⟩ := hrel
          cases gk with
          | zero => exact absurd HA.out (by simp [sealringref03_Next.l0])
          | succ k2 =>
            have H := HA.out
            clear HA
            simp only [sealringref03_Next.l0] at H
            have HC6 := Aside0.mk H
            clear H
            go_upto_region 4 with (fail)
            go_cut [25] (fun v25 wc => ∃ (kq : Nat) (x25_5 : Bool), v25 = .bool x25_5 ∧ Aside0 (sealringref03_Next.j2 kq a0 a1 x6_2 x25_5 = some (r1, r2)) ∧ Aside0 (kq ≤ k2) ∧ Aside0 (Below w.heap.size w wc))
            case first =>
              have H := HC6.out
              clear HC6
              by_cases c7 : x6_2 ≤ 4
              · rw [if_pos c7] at H
                have c7b0 : decide (x6_2 ≤ 4) = true := decide_eq_true c7
                clear c7
                (first | rw [c7b0] | (simp only [i64_w, i32_w]; rw [c7b0]) | skip)
                have H' := Aside0.mk H
                clear H
                go_wp2
                go_meet
                case rel => exact ⟨_, (decide (x6_2 ≤ (wrap64 ((a0.size : Int) - a1)))), (by first | rfl | (simp; done) | (simp [*]; done)), (by first | with_reducible exact H' | exact H' | (subst_vars; exact H')), ⟨by have := HJ2.out; have := HK2.out; first | omega | exact Nat.le_refl _⟩, ⟨by repeat (first | (with_reducible first | exact HB.out | apply below_alloc | apply pw_below_drewN | apply below_drew1) | exact HB.out)⟩⟩
              · rw [if_neg c7] at H
                have c7b0 : decide (x6_2 ≤ 4) = false := decide_eq_false c7
                clear c7
                (first | rw [c7b0] | (simp only [i64_w, i32_w]; rw [c7b0]) | skip)
                have H' := Aside0.mk H
                clear H
                go_wp2
                go_meet
                case rel => exact ⟨_, (false), (by first | rfl | (simp; done) | (simp [*]; done)), (by first | with_reducible exact H' | exact H' | (subst_vars; exact H')), ⟨by have := HJ2.out; have := HK2.out; first | omega | exact Nat.le_refl _⟩, ⟨by repeat (first | (with_reducible first | exact HB.out | apply below_alloc | apply pw_below_drewN | apply below_drew1) | exact HB.out)⟩⟩
            case rest =>
              clear HC6
              try clear c1
              try clear p2
              try clear c4
              try clear c4b0
              try clear c5
              try clear p6
              try clear c7
              try clear c7b0
              try clear p2
              obtain ⟨kq, x25_5, rfl, HA, HJ5, HB⟩ := hcut
              cases kq with
              | zero => exact absurd HA.out (by simp [sealringref03_Next.j2])
              | succ kj5 =>
                have H := HA.out
                clear HA
                simp only [sealringref03_Next.j2] at H
                by_cases c8 : x25_5 = true
                · subst c8
                  have H1 : (if 0 ≤ a1 then (if a1 ≤ (wrap64 (a1 + x6_2)) then (if (wrap64 (a1 + x6_2)) ≤ (a0.size : Int) then ((sealringref03_loose.f kj5 (a0.extract (a1 : Int).toNat ((wrap64 (a1 + x6_2)) : Int).toNat)).bind fun t379 => ((sealringref03_Is.f t379).bind fun t380 => (if t380 = true then ((sealringref03_Form.f t379).bind fun t381 => (if t381.toList = (a0.extract (a1 : Int).toNat ((wrap64 (a1 + x6_2)) : Int).toNat).toList then (some (t379, x6_2)) else (sealringref03_Next.l0 kj5 a0 a1 (wrap64 (x6_2 + 1))))) else (sealringref03_Next.l0 kj5 a0 a1 (wrap64 (x6_2 + 1)))))) else (none)) else (none)) else (none)) = some (r1, r2) := by rw [if_pos rfl] at H; exact H
                  clear H
                  have H := H1
                  clear H1
                  by_cases c9 : 0 ≤ a1
                  · rw [if_pos c9] at H
                    have c9b0 := eq_true c9
                    have c9b1 : decide (0 ≤ a1) = true := decide_eq_true c9
                    clear c9
                    by_cases c10 : a1 ≤ (wrap64 (a1 + x6_2))
                    · rw [if_pos c10] at H
                      have c10b0 := eq_true c10
                      have c10b1 : decide (a1 ≤ (wrap64 (a1 + x6_2))) = true := decide_eq_true c10
                      by_cases c11 : (wrap64 (a1 + x6_2)) ≤ (a0.size : Int)
                      · rw [if_pos c11] at H
                        have c11b0 := eq_true c11
                        have c11b1 : decide ((wrap64 (a1 + x6_2)) ≤ (a0.size : Int)) = true := decide_eq_true c11
                        replace H := Option.bind_eq_some_iff.mp H
                        obtain ⟨t379, A120, H⟩ := H
                        replace H : ((sealringref03_Is.f t379).bind fun t380 => (if t380 = true then ((sealringref03_Form.f t379).bind fun t381 => (if t381.toList = (a0.extract (a1 : Int).toNat ((wrap64 (a1 + x6_2)) : Int).toNat).toList then (some (t379, x6_2)) else (sealringref03_Next.l0 kj5 a0 a1 (wrap64 (x6_2 + 1))))) else (sealringref03_Next.l0 kj5 a0 a1 (wrap64 (x6_2 + 1))))) = some (r1, r2) := H
                        have A12 := Aside0.mk A120
                        clear A120
                        replace H := Option.bind_eq_some_iff.mp H
                        obtain ⟨t380, A130, H⟩ := H
                        replace H : (if t380 = true then ((sealringref03_Form.f t379).bind fun t381 => (if t381.toList = (a0.extract (a1 : Int).toNat ((wrap64 (a1 + x6_2)) : Int).toNat).toList then (some (t379, x6_2)) else (sealringref03_Next.l0 kj5 a0 a1 (wrap64 (x6_2 + 1))))) else (sealringref03_Next.l0 kj5 a0 a1 (wrap64 (x6_2 + 1)))) = some (r1, r2) := H
                        have A13 := Aside0.mk A130
                        clear A130
                        by_cases c14 : t380 = true
                        · subst c14
                          have H1 : ((sealringref03_Form.f t379).bind fun t381 => (if t381.toList = (a0.extract (a1 : Int).toNat ((wrap64 (a1 + x6_2)) : Int).toNat).toList then (some (t379, x6_2)) else (sealringref03_Next.l0 kj5 a0 a1 (wrap64 (x6_2 + 1))))) = some (r1, r2) := by rw [if_pos rfl] at H; exact H
                          clear H
                          have H := H1
                          clear H1
                          replace H := Option.bind_eq_some_iff.mp H
                          obtain ⟨t381, A150, H⟩ := H
                          replace H : (if t381.toList = (a0.extract (a1 : Int).toNat ((wrap64 (a1 + x6_2)) : Int).toNat).toList then (some (t379, x6_2)) else (sealringref03_Next.l0 kj5 a0 a1 (wrap64 (x6_2 + 1)))) = some (r1, r2) := H
                          have A15 := Aside0.mk A150
                          clear A150
                          have c16b0 := eq_true (of_decide_eq_true (by first | (with_reducible assumption) | assumption) : 0 ≤ a1)
                          have c17b0 := eq_true (of_decide_eq_true (by first | (with_reducible assumption) | assumption) : a1 ≤ (wrap64 (a1 + x6_2)))
                          have c18b0 := eq_true (of_decide_eq_true (by first | (with_reducible assumption) | assumption) : (wrap64 (a1 + x6_2)) ≤ (a0.size : Int))
                          by_cases c19 : t381.toList = (a0.extract (a1 : Int).toNat ((wrap64 (a1 + x6_2)) : Int).toNat).toList
                          · rw [if_pos c19] at H
                            have c19b0 : (t381.toList == (a0.extract (a1 : Int).toNat ((wrap64 (a1 + x6_2)) : Int).toNat).toList) = true := beq_iff_eq.mpr c19
                            have c19b1 : (t381.toList != (a0.extract (a1 : Int).toNat ((wrap64 (a1 + x6_2)) : Int).toNat).toList) = false := bne_eq_false_iff_eq.mpr c19
                            clear c19
                            simp only [Option.some.injEq, Prod.mk.injEq] at H
                            obtain ⟨rfl, rfl⟩ := H
                            try go_wp2_with (first | ((with_reducible refine gate_callee (f := 171) rfl ?_); refine goesL_ (some 34) rfl rfl Try.func171 (by kernel_rfl) rfl #[.string (a0.extract (a1 : Int).toNat ((wrap64 (a1 + x6_2)) : Int).toNat)] rfl (by (try simp only [List.map_toArray, List.map_cons, List.map_nil]); first | done | rfl | (simp only [List.length_drop, List.length_take]; rfl)) ?_; (with_reducible refine (sealringref03_loose.calls kj5 (a0.extract (a1 : Int).toNat ((wrap64 (a1 + x6_2)) : Int).toNat) t379 _ A12.out).mono ?_); rintro e w' ⟨rfl, ⟨nd, rfl⟩⟩; refine ⟨_, rfl, ?_⟩))
                            (try (rw [drewN_self wc]; generalize hq_ : World.drewN wc _ = wc; have n0_ : Aside0 (Below w.heap.size w wc) := ⟨by rw [← hq_]; exact (by repeat (first | (with_reducible first | exact HB.out | apply below_alloc | apply pw_below_drewN | apply below_drew1) | exact HB.out))⟩; clear HB hq_; have HB := n0_; clear n0_))
                            have n0_ := Aside0.mk (below_drew1 HB.out)
                            clear HB
                            have HB := n0_
                            clear n0_
                            refine start_ (n := 13) (S := fun w' => True) (ds := []) #[false, false, false, false, false, false, false, false, false, false, false, false, false] (by kernel_rfl) rfl rfl trivial (fun hHeld => ?_); refine with_tabW sealringref03_Next.tab7 sealringref03_Next.bits7 (fun HT_ HW_ => ?_)
                            generalize wc.drew = w20 at HB hHeld ⊢
                            refine pure_ (i := 0) (N := some 35) (v := ?_) (a' := ?_) #[true, false, false, false, false, false, false, false, false, false, false, false, false] rfl rfl (any_of HT_.out (by kernel_rfl)) (fun _ _ _ h => h) (Or.inl ⟨by rfl, ?_⟩) ?_ ?_
                            rotate_left
                            · intro w'
                              go_simp
                              with_reducible rfl
                            rotate_left
                            · simp only [Act.put, List.setIfInBounds_toArray, List.set_cons_zero, List.set_cons_succ, i64_w, i32_w]
                              rfl
                            refine one_ (i := 1) (N := some 36) #[true, true, false, false, false, false, false, false, false, false, false, false, false] rfl rfl (one_of HT_.out (by kernel_rfl)) (by decide) (fun K hK => ?_)
                            refine goes_ Try.func172 (by kernel_rfl) rfl #[.int .i64 t379] (by rfl) rfl rfl (by (try simp only [List.map_toArray, List.map_cons, List.map_nil]); first | done | rfl | (simp only [List.length_drop, List.length_take]; rfl)) ?_
                            with_reducible refine (sealringref03_Is.calls t379 true _ A13.out).mono ?_
                            rintro e w' ⟨rfl, ⟨nd, rfl⟩⟩
                            refine ⟨_, rfl, ?_⟩
                            refine hK.out _ _ trivial (fun hHeld => ?_)
                            clear hK K
                            refine norm_ (a' := ?_) ?_ ?_
                            rotate_left
                            · show Act.put _ (some 36) _ = _
                              simp only [Act.put, List.setIfInBounds_toArray, List.set_cons_zero, List.set_cons_succ, i64_w, i32_w]
                              rfl
                            refine pure_ (i := 2) (N := some 37) (v := ?_) (a' := ?_) #[true, true, true, false, false, false, false, false, false, false, false, false, false] rfl rfl (any_of HT_.out (by kernel_rfl)) (fun _ _ _ h => h) (Or.inl ⟨by rfl, ?_⟩) ?_ ?_
                            rotate_left
                            · intro w'
                              go_simp
                              with_reducible rfl
                            rotate_left
                            · simp only [Act.put, List.setIfInBounds_toArray, List.set_cons_zero, List.set_cons_succ, i64_w, i32_w]
                              rfl
                            refine pure_ (i := 3) (N := some 38) (v := ?_) (a' := ?_) #[true, true, true, true, false, false, false, false, false, false, false, false, false] rfl rfl (any_of HT_.out (by kernel_rfl)) (fun _ _ _ h => h) (Or.inl ⟨by rfl, ?_⟩) ?_ ?_
                            rotate_left
                            · intro w'
                              go_simp
                              with_reducible rfl
                            rotate_left
                            · simp only [Act.put, List.setIfInBounds_toArray, List.set_cons_zero, List.set_cons_succ, i64_w, i32_w]
                              rfl
                            refine pure_ (i := 5) (N := some 40) (v := ?_) (a' := ?_) #[true, true, true, true, false, true, false, false, false, false, false, false, false] rfl rfl (any_of HT_.out (by kernel_rfl)) (fun _ _ _ h => h) (Or.inl ⟨by rfl, ?_⟩) ?_ ?_
                            rotate_left
                            · intro w'
                              go_simp
                              with_reducible rfl
                            rotate_left
                            · simp only [Act.put, List.setIfInBounds_toArray, List.set_cons_zero, List.set_cons_succ, i64_w, i32_w]
                              rfl
                            refine pure_ (i := 6) (N := some 41) (v := ?_) (a' := ?_) #[true, true, true, true, false, true, true, false, false, false, false, false, false] rfl rfl (any_of HT_.out (by kernel_rfl)) (fun _ _ _ h => h) (Or.inl ⟨by rfl, ?_⟩) ?_ ?_
                            rotate_left
                            · intro w'
                              go_simp
                              with_reducible rfl
                            rotate_left
                            · simp only [Act.put, List.setIfInBounds_toArray, List.set_cons_zero, List.set_cons_succ, i64_w, i32_w]
                              rfl
                            refine pure_ (i := 7) (N := some 42) (v := ?_) (a' := ?_) #[true, true, true, true, false, true, true, true, false, false, false, false, false] rfl rfl (any_of HT_.out (by kernel_rfl)) (fun _ _ _ h => h) (Or.inl ⟨by rfl, ?_⟩) ?_ ?_
                            rotate_left
                            · intro w'
                              go_simp
                              with_reducible rfl
                            rotate_left
                            · simp only [Act.put, List.setIfInBounds_toArray, List.set_cons_zero, List.set_cons_succ, i64_w, i32_w]
                              rfl
                            refine pure_ (i := 8) (N := some 43) (v := ?_) (a' := ?_) #[true, true, true, true, false, true, true, true, true, false, false, false, false] rfl rfl (any_of HT_.out (by kernel_rfl)) (fun _ _ _ h => h) (Or.inl ⟨by rfl, ?_⟩) ?_ ?_
                            rotate_left
                            · intro w'
                              go_simp
                              with_reducible rfl
                            rotate_left
                            · simp only [Act.put, List.setIfInBounds_toArray, List.set_cons_zero, List.set_cons_succ, i64_w, i32_w]
                              rfl
                            refine pure_ (i := 9) (N := some 44) (v := ?_) (a' := ?_) #[true, true, true, true, false, true, true, true, true, true, false, false, false] rfl rfl (any_of HT_.out (by kernel_rfl)) (fun _ _ _ h => h) (Or.inl ⟨by rfl, ?_⟩) ?_ ?_
                            rotate_left
                            · intro w'
                              go_simp
                              with_reducible rfl
                            rotate_left
                            · simp only [Act.put, List.setIfInBounds_toArray, List.set_cons_zero, List.set_cons_succ, i64_w, i32_w]
                              rfl
                            refine pure_ (i := 10) (N := some 45) (v := ?_) (a' := ?_) #[true, true, true, true, false, true, true, true, true, true, true, false, false] rfl rfl (any_of HT_.out (by kernel_rfl)) (fun _ _ _ h => h) (Or.inl ⟨by rfl, ?_⟩) ?_ ?_
                            rotate_left
                            · intro w'
                              go_simp
                              with_reducible rfl
                            rotate_left
                            · simp only [Act.put, List.setIfInBounds_toArray, List.set_cons_zero, List.set_cons_succ, i64_w, i32_w]
                              rfl
                            refine one_ (i := 4) (N := some 39) #[true, true, true, true, true, true, true, true, true, true, true, false, false] rfl rfl (one_of HT_.out (by kernel_rfl)) (by decide) (fun K hK => ?_)
                            refine goes_ Try.func173 (by kernel_rfl) rfl #[.int .i64 t379] (by rfl) rfl rfl (by (try simp only [List.map_toArray, List.map_cons, List.map_nil]); first | done | rfl | (simp only [List.length_drop, List.length_take]; rfl)) ?_
                            with_reducible refine (sealringref03_Form.calls t379 t381 _ A15.out).mono ?_
                            rintro e w21 ⟨rfl, hb⟩
                            refine ⟨_, rfl, ?_⟩
                            have n0_ := Aside0.mk (below_step (by repeat (first | (with_reducible first | exact HB.out | apply below_alloc | apply pw_below_drewN | apply below_drew1) | exact HB.out)) hb)
                            clear HB
                            have HB := n0_
                            clear n0_
                            (try clear hb)
                            (try clear hb2)
                            (try clear hk)
                            (try clear hi)
                            refine hK.out _ _ trivial (fun hHeld => ?_)
                            clear hK K
                            refine norm_ (a' := ?_) ?_ ?_
                            rotate_left
                            · show Act.put _ (some 39) _ = _
                              simp only [Act.put, List.setIfInBounds_toArray, List.set_cons_zero, List.set_cons_succ, i64_w, i32_w]
                              rfl
                            refine pure_ (i := 11) (N := some 46) (v := ?_) (a' := ?_) #[true, true, true, true, true, true, true, true, true, true, true, true, false] rfl rfl (any_of HT_.out (by kernel_rfl)) (fun _ _ _ h => h) (Or.inl ⟨by rfl, ?_⟩) ?_ ?_
                            rotate_left
                            · intro w'
                              go_simp
                              with_reducible rfl
                            rotate_left
                            · simp only [Act.put, List.setIfInBounds_toArray, List.set_cons_zero, List.set_cons_succ, i64_w, i32_w]
                              rfl
                            refine pure_ (i := 12) (N := some 47) (v := ?_) (a' := ?_) #[true, true, true, true, true, true, true, true, true, true, true, true, true] rfl rfl (any_of HT_.out (by kernel_rfl)) (fun _ _ _ h => h) (Or.inl ⟨by rfl, ?_⟩) ?_ ?_
                            rotate_left
                            · intro w'
                              go_simp
                              with_reducible rfl
                            rotate_left
                            · simp only [Act.put, List.setIfInBounds_toArray, List.set_cons_zero, List.set_cons_succ, i64_w, i32_w]
                              rfl
                            refine done_ (done_of HT_.out (by kernel_rfl)) ?_
                            try go_wp2
                            go_ret2
                            exact ⟨by first | rfl | (simp [errW_none, errW_some] <;> rfl) | (simp [*, errW_none, errW_some] <;> rfl), by repeat (first | (with_reducible first | exact HB.out | apply below_alloc | apply pw_below_drewN | apply below_drew1) | exact HB.out)⟩
                          · rw [if_neg c19] at H
                            have c19b0 : (t381.toList == (a0.extract (a1 : Int).toNat ((wrap64 (a1 + x6_2)) : Int).toNat).toList) = false := beq_eq_false_iff_ne.mpr c19
                            have c19b1 : (t381.toList != (a0.extract (a1 : Int).toNat ((wrap64 (a1 + x6_2)) : Int).toNat).toList) = true := bne_iff_ne.mpr c19
                            have H' := Aside0.mk H
                            clear H
                            try go_wp2_with (first | ((with_reducible refine gate_callee (f := 171) rfl ?_); refine goesL_ (some 34) rfl rfl Try.func171 (by kernel_rfl) rfl #[.string (a0.extract (a1 : Int).toNat ((wrap64 (a1 + x6_2)) : Int).toNat)] rfl (by (try simp only [List.map_toArray, List.map_cons, List.map_nil]); first | done | rfl | (simp only [List.length_drop, List.length_take]; rfl)) ?_; (with_reducible refine (sealringref03_loose.calls kj5 (a0.extract (a1 : Int).toNat ((wrap64 (a1 + x6_2)) : Int).toNat) t379 _ A12.out).mono ?_); rintro e w' ⟨rfl, ⟨nd, rfl⟩⟩; refine ⟨_, rfl, ?_⟩))
                            (try (rw [drewN_self wc]; generalize hq_ : World.drewN wc _ = wc; have n0_ : Aside0 (Below w.heap.size w wc) := ⟨by rw [← hq_]; exact (by repeat (first | (with_reducible first | exact HB.out | apply below_alloc | apply pw_below_drewN | apply below_drew1) | exact HB.out))⟩; clear HB hq_; have HB := n0_; clear n0_))
                            have n0_ := Aside0.mk (below_drew1 HB.out)
                            clear HB
                            have HB := n0_
                            clear n0_
                            refine start_ (n := 13) (S := fun w' => True) (ds := []) #[false, false, false, false, false, false, false, false, false, false, false, false, false] (by kernel_rfl) rfl rfl trivial (fun hHeld => ?_); refine with_tabW sealringref03_Next.tab7 sealringref03_Next.bits7 (fun HT_ HW_ => ?_)
                            generalize wc.drew = w22 at HB hHeld ⊢
                            refine pure_ (i := 0) (N := some 35) (v := ?_) (a' := ?_) #[true, false, false, false, false, false, false, false, false, false, false, false, false] rfl rfl (any_of HT_.out (by kernel_rfl)) (fun _ _ _ h => h) (Or.inl ⟨by rfl, ?_⟩) ?_ ?_
                            rotate_left
                            · intro w'
                              go_simp
                              with_reducible rfl
                            rotate_left
                            · simp only [Act.put, List.setIfInBounds_toArray, List.set_cons_zero, List.set_cons_succ, i64_w, i32_w]
                              rfl
                            refine one_ (i := 1) (N := some 36) #[true, true, false, false, false, false, false, false, false, false, false, false, false] rfl rfl (one_of HT_.out (by kernel_rfl)) (by decide) (fun K hK => ?_)
                            refine goes_ Try.func172 (by kernel_rfl) rfl #[.int .i64 t379] (by rfl) rfl rfl (by (try simp only [List.map_toArray, List.map_cons, List.map_nil]); first | done | rfl | (simp only [List.length_drop, List.length_take]; rfl)) ?_
                            with_reducible refine (sealringref03_Is.calls t379 true _ A13.out).mono ?_
                            rintro e w' ⟨rfl, ⟨nd, rfl⟩⟩
                            refine ⟨_, rfl, ?_⟩
                            refine hK.out _ _ trivial (fun hHeld => ?_)
                            clear hK K
                            refine norm_ (a' := ?_) ?_ ?_
                            rotate_left
                            · show Act.put _ (some 36) _ = _
                              simp only [Act.put, List.setIfInBounds_toArray, List.set_cons_zero, List.set_cons_succ, i64_w, i32_w]
                              rfl
                            refine pure_ (i := 2) (N := some 37) (v := ?_) (a' := ?_) #[true, true, true, false, false, false, false, false, false, false, false, false, false] rfl rfl (any_of HT_.out (by kernel_rfl)) (fun _ _ _ h => h) (Or.inl ⟨by rfl, ?_⟩) ?_ ?_
                            rotate_left
                            · intro w'
                              go_simp
                              with_reducible rfl
                            rotate_left
                            · simp only [Act.put, List.setIfInBounds_toArray, List.set_cons_zero, List.set_cons_succ, i64_w, i32_w]
                              rfl
                            refine pure_ (i := 3) (N := some 38) (v := ?_) (a' := ?_) #[true, true, true, true, false, false, false, false, false, false, false, false, false] rfl rfl (any_of HT_.out (by kernel_rfl)) (fun _ _ _ h => h) (Or.inl ⟨by rfl, ?_⟩) ?_ ?_
                            rotate_left
                            · intro w'
                              go_simp
                              with_reducible rfl
                            rotate_left
                            · simp only [Act.put, List.setIfInBounds_toArray, List.set_cons_zero, List.set_cons_succ, i64_w, i32_w]
                              rfl
                            refine pure_ (i := 5) (N := some 40) (v := ?_) (a' := ?_) #[true, true, true, true, false, true, false, false, false, false, false, false, false] rfl rfl (any_of HT_.out (by kernel_rfl)) (fun _ _ _ h => h) (Or.inl ⟨by rfl, ?_⟩) ?_ ?_
                            rotate_left
                            · intro w'
                              go_simp
                              with_reducible rfl
                            rotate_left
                            · simp only [Act.put, List.setIfInBounds_toArray, List.set_cons_zero, List.set_cons_succ, i64_w, i32_w]
                              rfl
                            refine pure_ (i := 6) (N := some 41) (v := ?_) (a' := ?_) #[true, true, true, true, false, true, true, false, false, false, false, false, false] rfl rfl (any_of HT_.out (by kernel_rfl)) (fun _ _ _ h => h) (Or.inl ⟨by rfl, ?_⟩) ?_ ?_
                            rotate_left
                            · intro w'
                              go_simp
                              with_reducible rfl
                            rotate_left
                            · simp only [Act.put, List.setIfInBounds_toArray, List.set_cons_zero, List.set_cons_succ, i64_w, i32_w]
                              rfl
                            refine pure_ (i := 7) (N := some 42) (v := ?_) (a' := ?_) #[true, true, true, true, false, true, true, true, false, false, false, false, false] rfl rfl (any_of HT_.out (by kernel_rfl)) (fun _ _ _ h => h) (Or.inl ⟨by rfl, ?_⟩) ?_ ?_
                            rotate_left
                            · intro w'
                              go_simp
                              with_reducible rfl
                            rotate_left
                            · simp only [Act.put, List.setIfInBounds_toArray, List.set_cons_zero, List.set_cons_succ, i64_w, i32_w]
                              rfl
                            refine pure_ (i := 8) (N := some 43) (v := ?_) (a' := ?_) #[true, true, true, true, false, true, true, true, true, false, false, false, false] rfl rfl (any_of HT_.out (by kernel_rfl)) (fun _ _ _ h => h) (Or.inl ⟨by rfl, ?_⟩) ?_ ?_
                            rotate_left
                            · intro w'
                              go_simp
                              with_reducible rfl
                            rotate_left
                            · simp only [Act.put, List.setIfInBounds_toArray, List.set_cons_zero, List.set_cons_succ, i64_w, i32_w]
                              rfl
                            refine pure_ (i := 9) (N := some 44) (v := ?_) (a' := ?_) #[true, true, true, true, false, true, true, true, true, true, false, false, false] rfl rfl (any_of HT_.out (by kernel_rfl)) (fun _ _ _ h => h) (Or.inl ⟨by rfl, ?_⟩) ?_ ?_
                            rotate_left
                            · intro w'
                              go_simp
                              with_reducible rfl
                            rotate_left
                            · simp only [Act.put, List.setIfInBounds_toArray, List.set_cons_zero, List.set_cons_succ, i64_w, i32_w]
                              rfl
                            refine pure_ (i := 10) (N := some 45) (v := ?_) (a' := ?_) #[true, true, true, true, false, true, true, true, true, true, true, false, false] rfl rfl (any_of HT_.out (by kernel_rfl)) (fun _ _ _ h => h) (Or.inl ⟨by rfl, ?_⟩) ?_ ?_
                            rotate_left
                            · intro w'
                              go_simp
                              with_reducible rfl
                            rotate_left
                            · simp only [Act.put, List.setIfInBounds_toArray, List.set_cons_zero, List.set_cons_succ, i64_w, i32_w]
                              rfl
                            refine one_ (i := 4) (N := some 39) #[true, true, true, true, true, true, true, true, true, true, true, false, false] rfl rfl (one_of HT_.out (by kernel_rfl)) (by decide) (fun K hK => ?_)
                            refine goes_ Try.func173 (by kernel_rfl) rfl #[.int .i64 t379] (by rfl) rfl rfl (by (try simp only [List.map_toArray, List.map_cons, List.map_nil]); first | done | rfl | (simp only [List.length_drop, List.length_take]; rfl)) ?_
                            with_reducible refine (sealringref03_Form.calls t379 t381 _ A15.out).mono ?_
                            rintro e w23 ⟨rfl, hb⟩
                            refine ⟨_, rfl, ?_⟩
                            have n0_ := Aside0.mk (below_step (by repeat (first | (with_reducible first | exact HB.out | apply below_alloc | apply pw_below_drewN | apply below_drew1) | exact HB.out)) hb)
                            clear HB
                            have HB := n0_
                            clear n0_
                            (try clear hb)
                            (try clear hb2)
                            (try clear hk)
                            (try clear hi)
                            refine hK.out _ _ trivial (fun hHeld => ?_)
                            clear hK K
                            refine norm_ (a' := ?_) ?_ ?_
                            rotate_left
                            · show Act.put _ (some 39) _ = _
                              simp only [Act.put, List.setIfInBounds_toArray, List.set_cons_zero, List.set_cons_succ, i64_w, i32_w]
                              rfl
                            refine pure_ (i := 11) (N := some 46) (v := ?_) (a' := ?_) #[true, true, true, true, true, true, true, true, true, true, true, true, false] rfl rfl (any_of HT_.out (by kernel_rfl)) (fun _ _ _ h => h) (Or.inl ⟨by rfl, ?_⟩) ?_ ?_
                            rotate_left
                            · intro w'
                              go_simp
                              with_reducible rfl
                            rotate_left
                            · simp only [Act.put, List.setIfInBounds_toArray, List.set_cons_zero, List.set_cons_succ, i64_w, i32_w]
                              rfl
                            refine pure_ (i := 12) (N := some 47) (v := ?_) (a' := ?_) #[true, true, true, true, true, true, true, true, true, true, true, true, true] rfl rfl (any_of HT_.out (by kernel_rfl)) (fun _ _ _ h => h) (Or.inl ⟨by rfl, ?_⟩) ?_ ?_
                            rotate_left
                            · intro w'
                              go_simp
                              with_reducible rfl
                            rotate_left
                            · simp only [Act.put, List.setIfInBounds_toArray, List.set_cons_zero, List.set_cons_succ, i64_w, i32_w]
                              rfl
                            refine done_ (done_of HT_.out (by kernel_rfl)) ?_
                            try go_wp2
                            go_roundg kj5
                            case measure => have := HJ2.out; have := HK2.out; have := HJ5.out; omega
                            case rel => exact ⟨(wrap64 (x6_2 + 1)), (by first | rfl | (simp; done) | (simp [*]; done)), (by first | with_reducible exact H' | exact H' | (subst_vars; exact H')), ⟨by have := HJ2.out; have := HK2.out; have := HJ5.out; omega⟩, ⟨by repeat (first | (with_reducible first | exact HB.out | apply below_alloc | apply pw_below_drewN | apply below_drew1) | exact HB.out)⟩⟩
                        · replace c14 := Bool.eq_false_iff.mpr c14
                          subst c14
                          have H1 : (sealringref03_Next.l0 kj5 a0 a1 (wrap64 (x6_2 + 1))) = some (r1, r2) := by rw [if_neg (show ¬ (false = true) by decide)] at H; exact H
                          clear H
                          have H := H1
                          clear H1
                          have H' := Aside0.mk H
                          clear H
                          try go_wp2_with (first | ((with_reducible refine gate_callee (f := 171) rfl ?_); refine goesL_ (some 34) rfl rfl Try.func171 (by kernel_rfl) rfl #[.string (a0.extract (a1 : Int).toNat ((wrap64 (a1 + x6_2)) : Int).toNat)] rfl (by (try simp only [List.map_toArray, List.map_cons, List.map_nil]); first | done | rfl | (simp only [List.length_drop, List.length_take]; rfl)) ?_; (with_reducible refine (sealringref03_loose.calls kj5 (a0.extract (a1 : Int).toNat ((wrap64 (a1 + x6_2)) : Int).toNat) t379 _ A12.out).mono ?_); rintro e w' ⟨rfl, ⟨nd, rfl⟩⟩; refine ⟨_, rfl, ?_⟩))
                          (try (rw [drewN_self wc]; generalize hq_ : World.drewN wc _ = wc; have n0_ : Aside0 (Below w.heap.size w wc) := ⟨by rw [← hq_]; exact (by repeat (first | (with_reducible first | exact HB.out | apply below_alloc | apply pw_below_drewN | apply below_drew1) | exact HB.out))⟩; clear HB hq_; have HB := n0_; clear n0_))
                          have n0_ := Aside0.mk (below_drew1 HB.out)
                          clear HB
                          have HB := n0_
                          clear n0_
                          refine start_ (n := 13) (S := fun w' => True) (ds := []) #[false, false, false, false, false, false, false, false, false, false, false, false, false] (by kernel_rfl) rfl rfl trivial (fun hHeld => ?_); refine with_tabW sealringref03_Next.tab7 sealringref03_Next.bits7 (fun HT_ HW_ => ?_)
                          generalize wc.drew = w24 at HB hHeld ⊢
                          refine pure_ (i := 0) (N := some 35) (v := ?_) (a' := ?_) #[true, false, false, false, false, false, false, false, false, false, false, false, false] rfl rfl (any_of HT_.out (by kernel_rfl)) (fun _ _ _ h => h) (Or.inl ⟨by rfl, ?_⟩) ?_ ?_
                          rotate_left
                          · intro w'
                            go_simp
                            with_reducible rfl
                          rotate_left
                          · simp only [Act.put, List.setIfInBounds_toArray, List.set_cons_zero, List.set_cons_succ, i64_w, i32_w]
                            rfl
                          refine one_ (i := 1) (N := some 36) #[true, true, false, false, false, false, false, false, false, false, false, false, false] rfl rfl (one_of HT_.out (by kernel_rfl)) (by decide) (fun K hK => ?_)
                          refine goes_ Try.func172 (by kernel_rfl) rfl #[.int .i64 t379] (by rfl) rfl rfl (by (try simp only [List.map_toArray, List.map_cons, List.map_nil]); first | done | rfl | (simp only [List.length_drop, List.length_take]; rfl)) ?_
                          with_reducible refine (sealringref03_Is.calls t379 false _ A13.out).mono ?_
                          rintro e w' ⟨rfl, ⟨nd, rfl⟩⟩
                          refine ⟨_, rfl, ?_⟩
                          refine hK.out _ _ trivial (fun hHeld => ?_)
                          clear hK K
                          refine norm_ (a' := ?_) ?_ ?_
                          rotate_left
                          · show Act.put _ (some 36) _ = _
                            simp only [Act.put, List.setIfInBounds_toArray, List.set_cons_zero, List.set_cons_succ, i64_w, i32_w]
                            rfl
                          refine pure_ (i := 2) (N := some 37) (v := ?_) (a' := ?_) #[true, true, true, false, false, false, false, false, false, false, false, false, false] rfl rfl (any_of HT_.out (by kernel_rfl)) (fun _ _ _ h => h) (Or.inl ⟨by rfl, ?_⟩) ?_ ?_
                          rotate_left
                          · intro w'
                            go_simp
                            with_reducible rfl
                          rotate_left
                          · simp only [Act.put, List.setIfInBounds_toArray, List.set_cons_zero, List.set_cons_succ, i64_w, i32_w]
                            rfl
                          refine pure_ (i := 3) (N := some 38) (v := undef) (a' := ?_) #[true, true, true, true, false, false, false, false, false, false, false, false, false] rfl rfl (any_of HT_.out (by kernel_rfl)) (fun _ _ _ h => h) (Or.inr ⟨by rfl, rfl⟩) ?_ ?_
                          rotate_left
                          · simp only [Act.put, List.setIfInBounds_toArray, List.set_cons_zero, List.set_cons_succ, i64_w, i32_w]
                            rfl
                          refine pure_ (i := 4) (N := some 39) (v := undef) (a' := ?_) #[true, true, true, true, true, false, false, false, false, false, false, false, false] rfl rfl (any_of HT_.out (by kernel_rfl)) (fun _ _ _ h => h) (Or.inr ⟨by rfl, rfl⟩) ?_ ?_
                          rotate_left
                          · simp only [Act.put, List.setIfInBounds_toArray, List.set_cons_zero, List.set_cons_succ, i64_w, i32_w]
                            rfl
                          refine pure_ (i := 5) (N := some 40) (v := undef) (a' := ?_) #[true, true, true, true, true, true, false, false, false, false, false, false, false] rfl rfl (any_of HT_.out (by kernel_rfl)) (fun _ _ _ h => h) (Or.inr ⟨by rfl, rfl⟩) ?_ ?_
                          rotate_left
                          · simp only [Act.put, List.setIfInBounds_toArray, List.set_cons_zero, List.set_cons_succ, i64_w, i32_w]
                            rfl
                          refine pure_ (i := 6) (N := some 41) (v := undef) (a' := ?_) #[true, true, true, true, true, true, true, false, false, false, false, false, false] rfl rfl (any_of HT_.out (by kernel_rfl)) (fun _ _ _ h => h) (Or.inr ⟨by rfl, rfl⟩) ?_ ?_
                          rotate_left
                          · simp only [Act.put, List.setIfInBounds_toArray, List.set_cons_zero, List.set_cons_succ, i64_w, i32_w]
                            rfl
                          refine pure_ (i := 7) (N := some 42) (v := undef) (a' := ?_) #[true, true, true, true, true, true, true, true, false, false, false, false, false] rfl rfl (any_of HT_.out (by kernel_rfl)) (fun _ _ _ h => h) (Or.inr ⟨by rfl, rfl⟩) ?_ ?_
                          rotate_left
                          · simp only [Act.put, List.setIfInBounds_toArray, List.set_cons_zero, List.set_cons_succ, i64_w, i32_w]
                            rfl
                          refine pure_ (i := 8) (N := some 43) (v := undef) (a' := ?_) #[true, true, true, true, true, true, true, true, true, false, false, false, false] rfl rfl (any_of HT_.out (by kernel_rfl)) (fun _ _ _ h => h) (Or.inr ⟨by rfl, rfl⟩) ?_ ?_
                          rotate_left
                          · simp only [Act.put, List.setIfInBounds_toArray, List.set_cons_zero, List.set_cons_succ, i64_w, i32_w]
                            rfl
                          refine pure_ (i := 9) (N := some 44) (v := undef) (a' := ?_) #[true, true, true, true, true, true, true, true, true, true, false, false, false] rfl rfl (any_of HT_.out (by kernel_rfl)) (fun _ _ _ h => h) (Or.inr ⟨by rfl, rfl⟩) ?_ ?_
                          rotate_left
                          · simp only [Act.put, List.setIfInBounds_toArray, List.set_cons_zero, List.set_cons_succ, i64_w, i32_w]
                            rfl
                          refine pure_ (i := 10) (N := some 45) (v := undef) (a' := ?_) #[true, true, true, true, true, true, true, true, true, true, true, false, false] rfl rfl (any_of HT_.out (by kernel_rfl)) (fun _ _ _ h => h) (Or.inr ⟨by rfl, rfl⟩) ?_ ?_
                          rotate_left
                          · simp only [Act.put, List.setIfInBounds_toArray, List.set_cons_zero, List.set_cons_succ, i64_w, i32_w]
                            rfl
                          refine pure_ (i := 11) (N := some 46) (v := undef) (a' := ?_) #[true, true, true, true, true, true, true, true, true, true, true, true, false] rfl rfl (any_of HT_.out (by kernel_rfl)) (fun _ _ _ h => h) (Or.inr ⟨by rfl, rfl⟩) ?_ ?_
                          rotate_left
                          · simp only [Act.put, List.setIfInBounds_toArray, List.set_cons_zero, List.set_cons_succ, i64_w, i32_w]
                            rfl
                          refine pure_ (i := 12) (N := some 47) (v := ?_) (a' := ?_) #[true, true, true, true, true, true, true, true, true, true, true, true, true] rfl rfl (any_of HT_.out (by kernel_rfl)) (fun _ _ _ h => h) (Or.inl ⟨by rfl, ?_⟩) ?_ ?_
                          rotate_left
                          · intro w'
                            go_simp
                            with_reducible rfl
                          rotate_left
                          · simp only [Act.put, List.setIfInBounds_toArray, List.set_cons_zero, List.set_cons_succ, i64_w, i32_w]
                            rfl
                          refine done_ (done_of HT_.out (by kernel_rfl)) ?_
                          try go_wp2
                          go_roundg kj5
                          case measure => have := HJ2.out; have := HK2.out; have := HJ5.out; omega
                          case rel => exact ⟨(wrap64 (x6_2 + 1)), (by first | rfl | (simp; done) | (simp [*]; done)), (by first | with_reducible exact H' | exact H' | (subst_vars; exact H')), ⟨by have := HJ2.out; have := HK2.out; have := HJ5.out; omega⟩, ⟨by repeat (first | (with_reducible first | exact HB.out | apply below_alloc | apply pw_below_drewN | apply below_drew1) | exact HB.out)⟩⟩
                      · rw [if_neg c11] at H
                        exact absurd H (by simp)
                    · rw [if_neg c10] at H
                      exact absurd H (by simp)
                  · rw [if_neg c9] at H
                    exact absurd H (by simp)
                · replace c8 := Bool.eq_false_iff.mpr c8
                  subst c8
                  have H1 : (some (0, 0)) = some (r1, r2) := by rw [if_neg (show ¬ (false = true) by decide)] at H; exact H
                  clear H
                  have H := H1
                  clear H1
                  simp only [Option.some.injEq, Prod.mk.injEq] at H
                  obtain ⟨rfl, rfl⟩ := H
                  go_wp2
                  go_ret2
                  exact ⟨by first | rfl | (simp [errW_none, errW_some] <;> rfl) | (simp [*, errW_none, errW_some] <;> rfl), by repeat (first | (with_reducible first | exact HB.out | apply below_alloc | apply pw_below_drewN | apply below_drew1) | exact HB.out)⟩
end Go.Proofs.Ytjdldlphfifggaa.X
end
section
namespace Go.Proofs.Ytjdldlphfifggaa.X
open Go.RowKit Go.Proofs.YtjdldlphfifggaaW.PrintWords Go.Proofs.YtjdldlphfifggaaW.PrintLast
set_option linter.unusedVariables false
set_option linter.unusedSimpArgs false
def vC (b : Int) : Bool := decide (128 ≤ b ∧ b < 192)
def dec (s : ByteArray) (a : Nat) : Option (Int × Nat) :=
  if ¬ a < s.size then none
  else if bt s a < 128 then some (bt s a, 1)
  else if 194 ≤ bt s a ∧ bt s a < 224 then (if a + 2 ≤ s.size ∧ vC (bt s (a + 1 : Nat)) = true then some (bt s a % 32 * 64 + bt s (a + 1 : Nat) % 64, 2) else none)
  else if 224 ≤ bt s a ∧ bt s a < 240 then (if a + 3 ≤ s.size ∧ vC (bt s (a + 1 : Nat)) = true ∧ vC (bt s (a + 2 : Nat)) = true ∧ utf_sz ((bt s a % 16 * 64 + bt s (a + 1 : Nat) % 64) * 64 + bt s (a + 2 : Nat) % 64) = 3 then some ((bt s a % 16 * 64 + bt s (a + 1 : Nat) % 64) * 64 + bt s (a + 2 : Nat) % 64, 3) else none)
  else if 240 ≤ bt s a ∧ bt s a < 245 then (if a + 4 ≤ s.size ∧ vC (bt s (a + 1 : Nat)) = true ∧ vC (bt s (a + 2 : Nat)) = true ∧ vC (bt s (a + 3 : Nat)) = true ∧ utf_sz (((bt s a % 8 * 64 + bt s (a + 1 : Nat) % 64) * 64 + bt s (a + 2 : Nat) % 64) * 64 + bt s (a + 3 : Nat) % 64) = 4 then some (((bt s a % 8 * 64 + bt s (a + 1 : Nat) % 64) * 64 + bt s (a + 2 : Nat) % 64) * 64 + bt s (a + 3 : Nat) % 64, 4) else none)
  else none
def decT : Option (Int × Nat) → Int × Int × Bool
  | none => (0, 0, false)
  | some (v, n) => (v, (n : Int), true)
theorem and192 : ∀ b : Fin 256, (Go.bits .and .u8 (b.val : Int) 192 = 128) ↔ (128 ≤ (b.val : Int) ∧ (b.val : Int) < 192) := by decide +kernel
theorem isC_iff {b : Int} (h0 : 0 ≤ b) (h1 : b ≤ 255) : (Go.bits .and .u8 b 192 = 128) ↔ vC b = true := by
  have := and192 ⟨b.toNat, by omega⟩
  simp only at this
  rw [show ((b.toNat : Nat) : Int) = b by omega] at this
  rw [this, vC, decide_eq_true_iff]
theorem join6 {r b : Int} (h0 : 0 ≤ r) (h1 : r < 1048576) (hb0 : 0 ≤ b) (hb1 : b ≤ 255) : Go.bits .or .i32 (wrap32 (r * 64)) (Go.bits .and .u8 b 63) = r * 64 + b % 64 := by
  rw [u8_and63 b hb0 (by omega), show wrap32 (r * 64) = r * 64 by unfold wrap32; omega]
  exact bits_join .i32 31 (by decide) wraps_i32 6 (r * 64) (b % 64) (by omega) (by omega) (by omega) (by omega) (by omega) (by omega)
section
variable (s : ByteArray) (a n : Int)
theorem next_ok {i r : Int} {x : Int × Int × Bool} (hi : i < n - 1) (hc : vC (bt s (a + 1 + i)) = true) (h0 : 0 ≤ r) (h1 : r < 1048576) (h : Ev (fun k => utf_Next.l0 k s a n (i + 1) (r * 64 + bt s (a + 1 + i) % 64)) x) : Ev (fun k => utf_Next.l0 k s a n i r) x := by
  have hb := bt_range s (a + 1 + i)
  refine Ev.step (fun k => ?_) h
  rw [utf_Next.l0, if_pos hi, if_pos ((isC_iff hb.1 hb.2).2 hc), join6 h0 h1 hb.1 hb.2]
theorem next_bad {i r : Int} (hi : i < n - 1) (hc : ¬ vC (bt s (a + 1 + i)) = true) : Ev (fun k => utf_Next.l0 k s a n i r) (0, 0, false) := by
  have hb := bt_range s (a + 1 + i)
  refine Ev.step (f := fun _ => some (0, 0, false)) (fun k => ?_) (Ev.now _)
  rw [utf_Next.l0, if_pos hi, if_neg (fun h => hc ((isC_iff hb.1 hb.2).1 h))]
theorem next_end {i r : Int} (hi : ¬ i < n - 1) : Ev (fun k => utf_Next.l0 k s a n i r) (if utf_sz r = n then (r, n, true) else (0, 0, false)) := by
  refine Ev.step (f := fun k => (utf_size.f k r).bind fun t => if t = n then some (r, n, true) else some (0, 0, false)) (fun k => ?_) ?_
  · rw [utf_Next.l0, if_neg hi]
  · refine Ev.bind (f := fun _ t => if t = n then some (r, n, true) else some (0, 0, false)) (Ev.step (f := fun _ => some (utf_sz r)) (fun k => utf_size_f k r) (Ev.now _)) ?_
    by_cases c : utf_sz r = n
    · simp only [if_pos c]; exact Ev.now _
    · simp only [if_neg c]; exact Ev.now _
end
theorem head_ev (c : Int) (h0 : 0 ≤ c) (h1 : c ≤ 255) : Ev (fun k => utf_head.f k c) (if c < 128 then (1, c) else if 194 ≤ c ∧ c < 224 then (2, c % 32) else if 224 ≤ c ∧ c < 240 then (3, c % 16) else if 240 ≤ c ∧ c < 245 then (4, c % 8) else (0, 0)) := by
  have w : ∀ x : Int, 0 ≤ x → x ≤ 255 → wrap32 x = x := fun x g0 g1 => by unfold wrap32; omega
  have j1 : ∀ b, Ev (fun k => utf_head.j1 k c b) (if b = true then (3, c % 16) else if c ≥ 240 then (if c < 245 then (4, c % 8) else (0, 0)) else (0, 0)) := fun b => by
    refine Ev.step (f := fun _ => some _) (fun k => ?_) (Ev.now _)
    rw [utf_head.j1, u8_and15 c h0 (by omega), u8_and7 c h0 (by omega), w (c % 16) (by omega) (by omega), w (c % 8) (by omega) (by omega)]
    (repeat' split) <;> rfl
  have j0 : ∀ b, Ev (fun k => utf_head.j0 k c b) (if b = true then (2, c % 32) else if c ≥ 224 then (if c < 240 then (3, c % 16) else if c ≥ 240 then (if c < 245 then (4, c % 8) else (0, 0)) else (0, 0)) else if c ≥ 240 then (if c < 245 then (4, c % 8) else (0, 0)) else (0, 0)) := fun b => by
    cases b
    · by_cases c2 : c ≥ 224
      · refine Ev.step (f := fun k => utf_head.j1 k c (decide (c < 240))) (fun k => ?_) ?_
        · rw [utf_head.j0, if_neg (by simp), if_pos c2]
        · have := j1 (decide (c < 240))
          simp only [decide_eq_true_iff] at this
          simpa only [Bool.false_eq_true, if_false, if_pos c2] using this
      · refine Ev.step (f := fun k => utf_head.j1 k c false) (fun k => ?_) ?_
        · rw [utf_head.j0, if_neg (by simp), if_neg c2]
        · have := j1 false
          simpa only [Bool.false_eq_true, if_false, if_neg c2] using this
    · refine Ev.step (f := fun _ => some (2, c % 32)) (fun k => ?_) (Ev.now _)
      rw [utf_head.j0, if_pos rfl, u8_and31 c h0 (by omega), w (c % 32) (by omega) (by omega)]
  unfold utf_head.f
  by_cases c1 : c < 128
  · rw [if_pos c1]
    refine evPos c1 ?_
    rw [w c h0 h1]
    exact Ev.now _
  · rw [if_neg c1]
    refine evNeg c1 ?_
    by_cases c2 : c ≥ 194
    · refine evPos c2 ?_
      have := j0 (decide (c < 224))
      simp only [decide_eq_true_iff] at this
      by_cases c3 : c < 224
      · rw [if_pos ⟨c2, c3⟩]
        rwa [if_pos c3] at this
      · rw [if_neg (fun h => c3 h.2)]
        rw [if_neg c3] at this
        by_cases c4 : c < 240
        · rw [if_pos ⟨by omega, c4⟩]
          rwa [if_pos (by omega), if_pos c4] at this
        · rw [if_neg (fun h => c4 h.2)]
          rw [if_pos (by omega), if_neg c4, if_pos (by omega)] at this
          by_cases c5 : c < 245
          · rw [if_pos ⟨by omega, c5⟩]
            rwa [if_pos c5] at this
          · rw [if_neg (fun h => c5 h.2)]
            rwa [if_neg c5] at this
    · refine evNeg c2 ?_
      have := j0 false
      rw [if_neg (by simp), if_neg (by omega), if_neg (by omega)] at this
      rw [if_neg (fun h => c2 h.1), if_neg (fun h => by omega), if_neg (fun h => by omega)]
      exact this
theorem Next_ev (s : ByteArray) (hs : s.size ≤ 140737488351232) (a : Nat) : Ev (fun k => utf_Next.f k s (a : Int)) (decT (dec s a)) := by
  unfold utf_Next.f
  refine evPos hs (evNeg (by omega) ?_)
  by_cases c1 : a < s.size
  · refine evNeg (by omega) ?_
    have hb := bt_range s (a : Int)
    refine Ev.bind (f := fun k (hd : Int × Int) => if hd.1 = 0 then some (0, 0, false) else if hd.1 > (s.size : Int) - (a : Int) then some (0, 0, false) else utf_Next.l0 k s (a : Int) hd.1 0 hd.2) (head_ev (bt s a) hb.1 hb.2) ?_
    unfold dec
    rw [if_neg (show ¬ ¬ a < s.size by omega)]
    by_cases d1 : bt s a < 128
    · simp only [if_pos d1]
      refine evNeg (by decide) (evNeg (by omega) ?_)
      have := next_end s (a : Int) 1 (i := 0) (r := bt s a) (by omega)
      rwa [if_pos (by unfold utf_sz; rw [if_neg (by omega), if_pos d1])] at this
    · simp only [if_neg d1]
      have e1 : (a : Int) + 1 + 0 = ((a + 1 : Nat) : Int) := by omega
      have e2 : (a : Int) + 1 + (0 + 1) = ((a + 2 : Nat) : Int) := by omega
      have e3 : (a : Int) + 1 + (0 + 1 + 1) = ((a + 3 : Nat) : Int) := by omega
      have r1 := bt_range s ((a + 1 : Nat) : Int)
      have r2 := bt_range s ((a + 2 : Nat) : Int)
      have r3 := bt_range s ((a + 3 : Nat) : Int)
      by_cases d2 : 194 ≤ bt s a ∧ bt s a < 224
      · simp only [if_pos d2]
        refine evNeg (by decide) ?_
        by_cases f1 : a + 2 ≤ s.size
        · refine evNeg (by omega) ?_
          by_cases f2 : vC (bt s (a + 1 : Nat)) = true
          · rw [if_pos ⟨f1, f2⟩]
            refine next_ok s a 2 (by omega) (by rw [e1]; exact f2) (by omega) (by omega) ?_
            rw [e1]
            have := next_end s (a : Int) 2 (i := 0 + 1) (r := bt s a % 32 * 64 + bt s (a + 1 : Nat) % 64) (by omega)
            rwa [if_pos (by unfold utf_sz; rw [if_neg (by omega), if_neg (by omega), if_pos (by omega)])] at this
          · rw [if_neg (fun h => f2 h.2)]
            exact next_bad s a 2 (by omega) (by rw [e1]; exact f2)
        · rw [if_neg (fun h => f1 h.1)]
          exact evPos (by omega) (Ev.now _)
      · simp only [if_neg d2]
        by_cases d3 : 224 ≤ bt s a ∧ bt s a < 240
        · simp only [if_pos d3]
          refine evNeg (by decide) ?_
          by_cases f1 : a + 3 ≤ s.size
          · refine evNeg (by omega) ?_
            by_cases f2 : vC (bt s (a + 1 : Nat)) = true
            · refine next_ok s a 3 (by omega) (by rw [e1]; exact f2) (by omega) (by omega) ?_
              rw [e1]
              by_cases f3 : vC (bt s (a + 2 : Nat)) = true
              · refine next_ok s a 3 (by omega) (by rw [e2]; exact f3) (by omega) (by omega) ?_
                rw [e2]
                have := next_end s (a : Int) 3 (i := 0 + 1 + 1) (r := (bt s a % 16 * 64 + bt s (a + 1 : Nat) % 64) * 64 + bt s (a + 2 : Nat) % 64) (by omega)
                by_cases f4 : utf_sz ((bt s a % 16 * 64 + bt s (a + 1 : Nat) % 64) * 64 + bt s (a + 2 : Nat) % 64) = 3
                · rw [if_pos ⟨f1, f2, f3, f4⟩]
                  rwa [if_pos f4] at this
                · rw [if_neg (fun h => f4 h.2.2.2)]
                  rwa [if_neg f4] at this
              · rw [if_neg (fun h => f3 h.2.2.1)]
                exact next_bad s a 3 (by omega) (by rw [e2]; exact f3)
            · rw [if_neg (fun h => f2 h.2.1)]
              exact next_bad s a 3 (by omega) (by rw [e1]; exact f2)
          · rw [if_neg (fun h => f1 h.1)]
            exact evPos (by omega) (Ev.now _)
        · simp only [if_neg d3]
          by_cases d4 : 240 ≤ bt s a ∧ bt s a < 245
          · simp only [if_pos d4]
            refine evNeg (by decide) ?_
            by_cases f1 : a + 4 ≤ s.size
            · refine evNeg (by omega) ?_
              by_cases f2 : vC (bt s (a + 1 : Nat)) = true
              · refine next_ok s a 4 (by omega) (by rw [e1]; exact f2) (by omega) (by omega) ?_
                rw [e1]
                by_cases f3 : vC (bt s (a + 2 : Nat)) = true
                · refine next_ok s a 4 (by omega) (by rw [e2]; exact f3) (by omega) (by omega) ?_
                  rw [e2]
                  by_cases f4 : vC (bt s (a + 3 : Nat)) = true
                  · refine next_ok s a 4 (by omega) (by rw [e3]; exact f4) (by omega) (by omega) ?_
                    rw [e3]
                    have := next_end s (a : Int) 4 (i := 0 + 1 + 1 + 1) (r := ((bt s a % 8 * 64 + bt s (a + 1 : Nat) % 64) * 64 + bt s (a + 2 : Nat) % 64) * 64 + bt s (a + 3 : Nat) % 64) (by omega)
                    by_cases f5 : utf_sz (((bt s a % 8 * 64 + bt s (a + 1 : Nat) % 64) * 64 + bt s (a + 2 : Nat) % 64) * 64 + bt s (a + 3 : Nat) % 64) = 4
                    · rw [if_pos ⟨f1, f2, f3, f4, f5⟩]
                      rwa [if_pos f5] at this
                    · rw [if_neg (fun h => f5 h.2.2.2.2)]
                      rwa [if_neg f5] at this
                  · rw [if_neg (fun h => f4 h.2.2.2.1)]
                    exact next_bad s a 4 (by omega) (by rw [e3]; exact f4)
                · rw [if_neg (fun h => f3 h.2.2.1)]
                  exact next_bad s a 4 (by omega) (by rw [e2]; exact f3)
              · rw [if_neg (fun h => f2 h.2.1)]
                exact next_bad s a 4 (by omega) (by rw [e1]; exact f2)
            · rw [if_neg (fun h => f1 h.1)]
              exact evPos (by omega) (Ev.now _)
          · simp only [if_neg d4]
            exact evPos (by trivial) (Ev.now _)
  · unfold dec
    rw [if_pos c1]
    exact evPos (by omega) (Ev.now _)
end Go.Proofs.Ytjdldlphfifggaa.X
end
section
namespace Go.Proofs.Ytjdldlphfifggaa.X
open Go.RowKit Go.Proofs.YtjdldlphfifggaaW.PrintWords Go.Proofs.YtjdldlphfifggaaW.PrintLast
set_option linter.unusedVariables false
set_option linter.unusedSimpArgs false
theorem toList_inj {s t : ByteArray} (h : s.toList = t.toList) : s = t := by
  rw [Lib.toList_data, Lib.toList_data] at h
  apply ByteArray.ext
  exact Array.toList_inj.1 h
section
variable (t : ByteArray)
end
section
variable (s : ByteArray) (hs : s.size ≤ 140737488351232) (a : Nat)
include hs
end
theorem vC_iff {b : Int} : vC b = true ↔ (128 ≤ b ∧ b < 192) := by unfold vC; exact decide_eq_true_iff
section
variable (t : ByteArray)
end
section
variable (s : ByteArray) (hs : s.size ≤ 140737488351232) (a : Nat) (ha : a < s.size)
include hs ha
end
end Go.Proofs.Ytjdldlphfifggaa.X
end
section
namespace Go.Proofs.Ytjdldlphfifggaa.X
open Go.RowKit Go.Proofs.YtjdldlphfifggaaW.PrintWords Go.Proofs.YtjdldlphfifggaaW.PrintLast
set_option linter.unusedVariables false
set_option linter.unusedSimpArgs false
theorem utf_sz_of {v : Int} : (0 ≤ v ∧ v < 128 → utf_sz v = 1) ∧ (128 ≤ v ∧ v < 2048 → utf_sz v = 2) := by
  refine ⟨fun h => ?_, fun h => ?_⟩
  · unfold utf_sz; rw [if_neg (by omega), if_pos h.2]
  · unfold utf_sz; rw [if_neg (by omega), if_neg (by omega), if_pos h.2]
theorem utf_sz_3 {v : Int} (h : utf_sz v = 3) : 2048 ≤ v ∧ v < 65536 ∧ (v < 55296 ∨ v > 57343) := by
  unfold utf_sz at h
  have c0 : ¬ (v < 0 ∨ v > 1114111 ∨ v ≥ 55296 ∧ v ≤ 57343) := fun c => by rw [if_pos c] at h; omega
  rw [if_neg c0] at h
  have c1 : ¬ v < 128 := fun c => by rw [if_pos c] at h; omega
  rw [if_neg c1] at h
  have c2 : ¬ v < 2048 := fun c => by rw [if_pos c] at h; omega
  rw [if_neg c2] at h
  have c3 : v < 65536 := by
    by_cases c : v < 65536
    · exact c
    · rw [if_neg c] at h; omega
  omega
theorem utf_sz_4 {v : Int} (h : utf_sz v = 4) : 65536 ≤ v ∧ v ≤ 1114111 := by
  unfold utf_sz at h
  have c0 : ¬ (v < 0 ∨ v > 1114111 ∨ v ≥ 55296 ∧ v ≤ 57343) := fun c => by rw [if_pos c] at h; omega
  rw [if_neg c0] at h
  have c1 : ¬ v < 128 := fun c => by rw [if_pos c] at h; omega
  rw [if_neg c1] at h
  have c2 : ¬ v < 2048 := fun c => by rw [if_pos c] at h; omega
  rw [if_neg c2] at h
  have c3 : ¬ v < 65536 := fun c => by rw [if_pos c] at h; omega
  omega
theorem dec_form {s : ByteArray} {a : Nat} {v : Int} {n : Nat} (h : dec s a = some (v, n)) : a < s.size ∧ a + n ≤ s.size ∧ utf_sz v = (n : Int) ∧
    ((n = 1 ∧ 0 ≤ v ∧ v < 128 ∧ bt s a = v) ∨ (n = 2 ∧ 128 ≤ v ∧ v < 2048 ∧ bt s a = 192 + v / 64 ∧ bt s (a + 1 : Nat) = 128 + v % 64) ∨
     (n = 3 ∧ 2048 ≤ v ∧ v < 65536 ∧ bt s a = 224 + v / 4096 ∧ bt s (a + 1 : Nat) = 128 + v / 64 % 64 ∧ bt s (a + 2 : Nat) = 128 + v % 64) ∨
     (n = 4 ∧ 65536 ≤ v ∧ v ≤ 1114111 ∧ bt s a = 240 + v / 262144 ∧ bt s (a + 1 : Nat) = 128 + v / 4096 % 64 ∧ bt s (a + 2 : Nat) = 128 + v / 64 % 64 ∧ bt s (a + 3 : Nat) = 128 + v % 64)) := by
  have b0 := bt_range s (a : Int)
  unfold dec at h
  by_cases c0 : a < s.size
  · rw [if_neg (show ¬ ¬ a < s.size by omega)] at h
    by_cases c1 : bt s a < 128
    · rw [if_pos c1] at h
      obtain ⟨rfl, rfl⟩ := Prod.mk.inj (Option.some.inj h)
      exact ⟨c0, by omega, utf_sz_of.1 ⟨b0.1, c1⟩, .inl ⟨rfl, b0.1, c1, rfl⟩⟩
    · rw [if_neg c1] at h
      by_cases c2 : 194 ≤ bt s a ∧ bt s a < 224
      · rw [if_pos c2] at h
        by_cases d : a + 2 ≤ s.size ∧ vC (bt s (a + 1 : Nat)) = true
        · rw [if_pos d] at h
          obtain ⟨rfl, rfl⟩ := Prod.mk.inj (Option.some.inj h)
          have d1 := vC_iff.1 d.2
          exact ⟨c0, d.1, utf_sz_of.2 (by omega), .inr (.inl ⟨rfl, by omega, by omega, by omega, by omega⟩)⟩
        · rw [if_neg d] at h; cases h
      · rw [if_neg c2] at h
        by_cases c3 : 224 ≤ bt s a ∧ bt s a < 240
        · rw [if_pos c3] at h
          split at h
          · rename_i d
            obtain ⟨rfl, rfl⟩ := Prod.mk.inj (Option.some.inj h)
            have d1 := vC_iff.1 d.2.1
            have d2 := vC_iff.1 d.2.2.1
            have d3 := utf_sz_3 d.2.2.2
            exact ⟨c0, d.1, d.2.2.2, .inr (.inr (.inl ⟨rfl, by omega, by omega, by omega, by omega, by omega⟩))⟩
          · cases h
        · rw [if_neg c3] at h
          by_cases c4 : 240 ≤ bt s a ∧ bt s a < 245
          · rw [if_pos c4] at h
            split at h
            · rename_i d
              obtain ⟨rfl, rfl⟩ := Prod.mk.inj (Option.some.inj h)
              have d1 := vC_iff.1 d.2.1
              have d2 := vC_iff.1 d.2.2.1
              have d3 := vC_iff.1 d.2.2.2.1
              have d4 := utf_sz_4 d.2.2.2.2
              exact ⟨c0, d.1, d.2.2.2.2, .inr (.inr (.inr ⟨rfl, by omega, by omega, by omega, by omega, by omega, by omega⟩))⟩
            · cases h
          · rw [if_neg c4] at h; cases h
  · rw [if_pos c0] at h; cases h
theorem dec_range {s : ByteArray} {a : Nat} {v : Int} {n : Nat} (h : dec s a = some (v, n)) : 1 ≤ n ∧ n ≤ 4 ∧ 0 ≤ v ∧ v ≤ 1114111 := by
  have := (dec_form h).2.2.2
  omega
def decs (s : ByteArray) : Nat → Nat → List (Nat × Int) × Nat
  | 0, a => ([], a)
  | f + 1, a => match dec s a with | none => ([], a) | some (v, n) => ((a, v) :: (decs s f (a + n)).1, (decs s f (a + n)).2)
theorem decs_end (s : ByteArray) : ∀ (f a : Nat), ((decs s f a).1 = [] ∧ (decs s f a).2 = a) ∨ ∃ p v n, (decs s f a).1.getLast? = some (p, v) ∧ utf_sz v = ((n : Nat) : Int) ∧ (decs s f a).2 = p + n ∧ p + n ≤ s.size
  | 0, a => .inl ⟨rfl, rfl⟩
  | f + 1, a => by
    cases hd : dec s a with
    | none => exact .inl ⟨by simp only [decs, hd], by simp only [decs, hd]⟩
    | some vn =>
      obtain ⟨v, n⟩ := vn
      have hf := dec_form hd
      right
      simp only [decs, hd]
      rcases decs_end s f (a + n) with ⟨h1, h2⟩ | ⟨p, v', n', h1, h2, h3, h4⟩
      · exact ⟨a, v, n, by rw [h1]; rfl, hf.2.2.1, h2, hf.2.1⟩
      · refine ⟨p, v', n', ?_, h2, h3, h4⟩
        rw [List.getLast?_cons, h1]
        rfl
end Go.Proofs.Ytjdldlphfifggaa.X
end
section
namespace Go.Proofs.Ytjdldlphfifggaa.X
open Go.RowKit Go.Shelf Go.Proofs.YtjdldlphfifggaaW.PrintWords
attribute [local go_sem] Oper.semAt_some
set_option linter.unusedVariables false
set_option linter.unusedSimpArgs false
def utf_All.l0 : Nat → ByteArray → Int → Option (List (Int × Int) × Int)
  | 0, _, _ => none
  | k + 1, s, a => if a < (s.size : Int) then (utf_Next.f k s a).bind fun x => if x.2.2 = true then (utf_All.l0 k s (wrap64 (a + x.2.1))).map fun y => ((a, x.1) :: y.1, y.2) else some ([], a) else some ([], a)
theorem utf_All.mono_l : ∀ k s a, LeO (utf_All.l0 k s a) (utf_All.l0 (k + 1) s a)
  | 0 => fun _ _ r h => by simp [utf_All.l0] at h
  | k + 1 => by
    have ih0 := utf_All.mono_l k
    intro s a
    unfold utf_All.l0
    refine LeO.ite (LeO.bind (utf_Next.mono _ _ _) (fun x => LeO.ite ?_ (LeO.refl _))) (LeO.refl _)
    intro r hr
    obtain ⟨y, hy, rfl⟩ := Option.map_eq_some_iff.1 hr
    rw [ih0 _ _ _ hy]
    rfl
theorem utf_Next.l0_ok : ∀ {k : Nat} {s : ByteArray} {a n i r r1 n1 : Int}, utf_Next.l0 k s a n i r = some (r1, n1, true) → n1 = n
  | 0, _, _, _, _, _, _, _, h => by simp [utf_Next.l0] at h
  | k + 1, s, a, n, i, r, r1, n1, h => by
    simp only [utf_Next.l0] at h
    split at h
    · split at h
      · exact utf_Next.l0_ok h
      · simp at h
    · obtain ⟨t, _, h⟩ := Option.bind_eq_some_iff.1 h
      split at h
      · simp at h; omega
      · simp at h
theorem utf_Next.ok {k : Nat} {s : ByteArray} {a r n : Int} (h : utf_Next.f k s a = some (r, n, true)) : 0 ≤ a ∧ 1 ≤ n ∧ n ≤ 4 ∧ a + n ≤ (s.size : Int) ∧ s.size ≤ 140737488351232 := by
  unfold utf_Next.f at h
  split at h
  · split at h
    · simp at h
    · split at h
      · simp at h
      · obtain ⟨⟨n', r'⟩, A1, h⟩ := Option.bind_eq_some_iff.1 h
        have := utf_head_range A1
        simp only at h
        split at h
        · simp at h
        · split at h
          · simp at h
          · have := utf_Next.l0_ok h
            omega
  · cases h
def KeepBox (Bn : Nat) (v : Value) (W W' : World) : Prop := W.cell? ⟨Bn, 0, none⟩ = some v → W'.cell? ⟨Bn, 0, none⟩ = some v
theorem keepBox_t {Bn : Nat} {v : Value} {A B C : World} (h : KeepBox Bn v A B) (k : KeepBox Bn v B C) : KeepBox Bn v A C := fun x => k (h x)
theorem keepBox_b {Bn : Nat} {v : Value} (n : Nat) (W : World) (l : Nat) (o o' : Obj) (_ : n ≤ l) (ho : W.heap[l]? = some o) (hc : o.isCells = false) (_ : o.isWalk = false) : KeepBox Bn v W (W.putObj l o') :=
  fun h => cell_kept h (grownBy_putObj' W l o') (fun r e => by cases e; exact ⟨o, ho, hc⟩)
abbrev encAll (x : Int × Int) : Array Value := #[.int .i64 x.1, .int .i32 x.2]
set_option maxRecDepth 100000 in
set_option maxHeartbeats 2000000 in
theorem utf_All1 (n : Nat) (hn : 1 ≤ n) (l Bn : Nat) (k : Nat) (s : ByteArray) (xs : List (Int × Int)) (en : Int) (hx : utf_All.l0 k s 0 = some (xs, en)) (J Jx : List (Int × Int) → World → Prop) (B : Nat) (hJ : AbidesFrom B J)
    (hY : ∀ pre x W, J pre W → pre.length < xs.length → YieldAt Fence.wide (n - 1) Try.prog l (encAll x) W fun e W' =>
      (e = .returned (.bool true) ∧ J (pre ++ [x]) W' ∧ KeepBox Bn (.string s) W W') ∨ (e = .returned (.bool false) ∧ Jx (pre ++ [x]) W'))
    (W : World) (hBn : W.cell? ⟨Bn, 0, none⟩ = some (.string s)) (h0 : J [] W) :
    CallsIn Fence.wide n Try.prog 132 #[.func (.yield l) #[] #[], .pointer (some ⟨Bn, 0, none⟩)] W fun e W' => (∃ v, e = .returned v) ∧
      ((∃ ys, ys = xs ∧ J ys W') ∨ (∃ pre, pre <+: xs ∧ Jx pre W')) := by
  refine callsIn_of_wp Try.func132 rfl trivial ?_ rfl
  simp only [Try.ntmps132, List.size_toArray, List.length_cons, List.length_nil, Nat.reduceAdd, Nat.reduceSub, Array.replicate_succ, Array.replicate_zero, List.push_toArray, List.append_toArray, List.nil_append, List.cons_append]
  gi_wp2
  gi_loopw [3, 4, 5, 6] (fun p3 p4 p5 p6 wr => ∃ (at_ : Int) (pre rest : List (Int × Int)) (k1 : Nat), p3 = .int .i64 at_ ∧ xs = pre ++ rest ∧ Aside0 (utf_All.l0 k1 s at_ = some (rest, en)) ∧ wr.cell? ⟨Bn, 0, none⟩ = some (.string s) ∧ J pre wr)
    (fun p3 p4 p5 p6 wr => ((s.size : Int) - intOf p3).toNat)
  case atStart =>
    exact ⟨0, [], xs, k, rfl, rfl, ⟨hx⟩, hBn, h0⟩
  case round =>
    obtain ⟨at_, pre, rest, k1, rfl, hxs, HA, hc, hJs⟩ := hrel
    have H := HA.out
    cases k1 with
    | zero => simp [utf_All.l0] at H
    | succ k1 =>
      simp only [utf_All.l0] at H
      by_cases c1 : at_ < (s.size : Int)
      · rw [if_pos c1] at H
        obtain ⟨⟨r, m, ok⟩, A1, H⟩ := Option.bind_eq_some_iff.1 H
        have A1 := Aside0.mk A1
        simp only at H
        have hlt := c1
        cases ok with
        | false =>
          rw [if_neg (by simp)] at H
          cases H
          gi_wp2_with (refine ⟨trivial, ?_⟩; gi_at_call 133; refine (callsIn_wide.2 (utf_Next.calls k1 s _ r m false _ A1.out)).mono ?_; rintro e w1 ⟨rfl, hb⟩; have hJ1 := hJ _ _ _ none hJs ⟨hb.os, hb.tape, hb.output, hb.size, fun k hk _ => hb.block k hk⟩ (fun r e => by cases e))
          refine ⟨fun _ h => (by cases h), ?_⟩
          gi_wp2
          refine bodyPost_ret (results_none rfl _ _ _) rfl ?_
          exact ⟨⟨_, rfl⟩, .inl ⟨pre, by simp [hxs], hJ1⟩⟩
        | true =>
          obtain ⟨o1, o2, o3, o4, o5⟩ := utf_Next.ok A1.out
          rw [if_pos rfl] at H
          obtain ⟨⟨rest', en'⟩, H2, e2⟩ := Option.map_eq_some_iff.1 H
          simp only [Prod.mk.injEq] at e2
          obtain ⟨rfl, rfl⟩ := e2
          have hw1 : wrap64 (at_ + m) = at_ + m := by unfold wrap64; omega
          rw [hw1] at H2
          have H' := Aside0.mk H2
          clear H H2 HA
          gi_wp2_with (refine ⟨trivial, ?_⟩; gi_at_call 133; refine (callsIn_wide.2 (utf_Next.calls k1 s _ r m true _ A1.out)).mono ?_; rintro e w1 ⟨rfl, hb⟩; have hJ1 := hJ _ _ _ none hJs ⟨hb.os, hb.tape, hb.output, hb.size, fun k hk _ => hb.block k hk⟩ (fun r e => by cases e); have hc1 := (hb.cell (p := ⟨Bn, 0, none⟩) (World.block_lt_of_cell? _ _ hc)).trans hc; obtain ⟨fn, tmps, assign, body, hy, hR⟩ := hY pre (at_, r) w1 hJ1 (by rw [hxs]; simp); dsimp only [encAll] at hy)
          refine hR.mono ?_
          rintro e W3 (⟨rfl, hJ3, hk3⟩ | ⟨rfl, hJx3⟩)
          · have hc3 : W3.cell? ⟨Bn, 0, none⟩ = some (.string s) := hk3 hc1
            gi_wp2
            go_roundw
            case rel => exact ⟨_, pre ++ [(at_, r)], rest', k1, rfl, by simp [hxs], H', hc3, hJ3⟩
            case measure => simp [intOf]; omega
          · gi_wp2
            refine bodyPost_ret (results_none rfl _ _ _) rfl ?_
            exact ⟨⟨_, rfl⟩, .inr ⟨pre ++ [(at_, r)], ⟨rest', by simp [hxs]⟩, hJx3⟩⟩
      · rw [if_neg c1] at H
        cases H
        gi_wp2
        go_end0
        exact ⟨⟨_, rfl⟩, .inl hJs⟩
theorem utf_All_stops (n : Nat) (hn : 1 ≤ n) (Bn : Nat) (k : Nat) (s : ByteArray) (xs : List (Int × Int)) (en : Int) (hx : utf_All.l0 k s 0 = some (xs, en)) (w : World) (hBn : Bn < w.heap.size)
    (hc : w.cell? ⟨Bn, 0, none⟩ = some (.string s)) :
    SeqStopsK Fence.wide n Try.prog 132 #[.pointer (some ⟨Bn, 0, none⟩)] encAll (KeepBox Bn (.string s)) (fun ys => ys = xs) (fun pre => pre <+: xs) xs.length w := fun l J Jx W hW hJ _ hY h0 =>
  utf_All1 n hn l Bn k s xs en hx J Jx _ hJ hY W ((hW.cell (p := ⟨Bn, 0, none⟩) hBn).trans hc) h0
theorem utf_All_in (n : Nat) (s : ByteArray) (w : World) :
    CallsIn Fence.wide n Try.prog 102 #[.string s] w fun e w' => e = .returned (.func (.func 132) #[] #[.pointer (some ⟨w.heap.size, 0, none⟩)]) ∧ w' = w.alloc (.cells #[.string s] 9) := by
  refine callsIn_of_wp Try.func102 rfl trivial ?_ rfl
  simp only [Try.ntmps102, List.size_toArray, List.length_cons, List.length_nil, Nat.reduceAdd, Nat.reduceSub, Array.replicate_succ, Array.replicate_zero, List.push_toArray, List.append_toArray, List.nil_append, List.cons_append]
  gi_wp2
  go_ret
  exact ⟨rfl, rfl⟩
def utf_end (l : List (Int × Int)) : Int := match l.getLast? with | none => 0 | some x => wrap64 (x.1 + utf_sz x.2)
theorem utf_end_snoc (l : List (Int × Int)) (x : Int × Int) : utf_end (l ++ [x]) = wrap64 (x.1 + utf_sz x.2) := by simp [utf_end]
def utf_Valid.f (k : Nat) (s : ByteArray) : Option Bool := (utf_All.l0 k s 0).bind fun y => some (utf_end y.1 == (s.size : Int))
theorem utf_Valid.mono : ∀ s k, LeO (utf_Valid.f k s) (utf_Valid.f (k + 1) s) := fun s k => LeO.bind (utf_All.mono_l _ _ _) (fun _ => LeO.refl _)
set_option maxRecDepth 100000 in
set_option maxHeartbeats 2000000 in
theorem utf_Valid.calls (k : Nat) (s : ByteArray) (r : Bool) (w : World) (h : utf_Valid.f k s = some r) :
    Calls Try.prog 54 #[.string s] w fun e w' => e = .returned (.bool r) ∧ Below w.heap.size w w' := by
  obtain ⟨⟨xs, en⟩, hx, hr⟩ := Option.bind_eq_some_iff.1 h
  have hx := Aside0.mk hx
  have hr := Aside0.mk (Option.some.inj hr)
  clear h
  refine (callsIn_wide (n := 4)).1 ?_
  refine callsIn_of_wp_marks Try.func54 rfl trivial ?_ rfl
  simp only [Try.ntmps54, List.size_toArray, List.length_cons, List.length_nil, Nat.reduceAdd, Nat.reduceSub, Array.replicate_succ, Array.replicate_zero, List.push_toArray, List.append_toArray, List.nil_append, List.cons_append]
  gi_wp2_with (refine ⟨trivial, ?_⟩; gi_at_call 102; refine (utf_All_in _ _ _).mono ?_; rintro e w' ⟨rfl, rfl⟩)
  have hs := boxv w (.int .i64 0) 3
  have hb := boxv (w.alloc (.cells #[.int .i64 0] 3)) (.string s) 9
  rw [World.size_alloc] at hb
  have hB0 : Below w.heap.size w ((w.alloc (.cells #[.int .i64 0] 3)).alloc (.cells #[.string s] 9)) := ((Below.refl _ w).alloc (Nat.le_refl _) _).alloc (by simp) _
  refine wpIn_rangeFunc_ownF rfl (by omega) (gf := 132) (lb := #[.pointer (some ⟨w.heap.size + 1, 0, none⟩)]) rfl trivial (enters_of Try.func132 (by kernel_rfl) rfl)
    (utf_All_stops _ (by omega) (w.heap.size + 1) k s xs en hx.out _ (by simp) hb.1) keepBox_t (keepBox_b _) (Below.refl _ _) (fun _ => rfl)
    (fun pre W => (W.cell? ⟨w.heap.size, 0, none⟩ = some (.int .i64 (utf_end pre)) ∧ W.frozen? ⟨w.heap.size, 0, none⟩ = false) ∧ Below w.heap.size w W)
    (fun _ _ _ => False)
    (OwnFrom.and (Own.from (fun s A B row hs hg hr => ⟨cell_kept hs.1 hg hr, (frozen_kept hs.1 hg hr).trans hs.2⟩) _) (ownFrom_below (Nat.le_refl _) (by simp; omega)))
    (fun _ _ _ _ _ hs _ _ => hs)
    ⟨⟨boxv_cell _ hs.1, boxv_frozen _ hs.1 hs.2⟩, hB0⟩
    (fun x => { tmps := #[.string s, undef, .bool false, .pointer (some ⟨w.heap.size, 0, none⟩), .int .i64 x.1, .int .i32 x.2, .string s, .func (.func 132) #[] #[.pointer (some ⟨w.heap.size + 1, 0, none⟩)], .int .i64 x.1, .int .i32 x.2, undef, undef, undef, undef, undef, undef, undef, undef], defers := [] }) ?assign ?body ?done ?stop
  case assign =>
    intro l x W K hK
    gi_wp2
    exact hK
  case body =>
    rintro l pre x W ⟨⟨hc, hf⟩, hB⟩ _
    gi_wp2_with (refine ⟨trivial, ?_⟩; gi_at_call 103; refine (CallsIn.inRound l (callsIn_wide.2 (utf_size.calls 1 _ _ _ (utf_size_f 0 _)))).mono ?_; rintro e w' ⟨rfl, m, rfl⟩)
    refine ⟨(show KeepsOthers W (W.drewN m) from ⟨Nat.le_refl _, fun _ _ h _ => h⟩).trans (KeepsOthers.setCell _ _ _), fun h => ?_, ⟨?_, ?_⟩, (pw_below_drewN hB _).setCell (p := ⟨w.heap.size, 0, none⟩) (Nat.le_refl _) _⟩
    · rw [World.cell?_setCell_other _ _ _ _ (fun e => by have := congrArg Addr.block e; simp at this)]
      exact h
    · rw [utf_end_snoc]
      exact World.cell?_setCell_same' _ _ _ (by show (W.cell? ⟨w.heap.size, 0, none⟩).isSome = true; rw [hc]; rfl)
    · rw [World.frozen?_setCell]
      exact hf
  case done =>
    rintro D ys W hD rfl ⟨⟨hc, _⟩, hB⟩ hK
    gi_wp2
    refine ⟨by simp, .inl ⟨_, _, rfl, run_takeDeferred hK, ?_⟩⟩
    exact ⟨_, results_tmp rfl _ _ _, by rw [← hr.out]; rfl, hB.trans (belowK_b (w := w) (Nat.le_refl _) W D _ _ (by simp at hD; omega) hK rfl rfl)⟩
  case stop =>
    rintro D c pre W _ _ h _
    exact h.elim
end Go.Proofs.Ytjdldlphfifggaa.X
end
section
namespace Go.Proofs.Ytjdldlphfifggaa.X
open Go.RowKit Go.Proofs.YtjdldlphfifggaaW.PrintWords Go.Proofs.YtjdldlphfifggaaW.PrintLast
set_option linter.unusedVariables false
set_option linter.unusedSimpArgs false
def utf_Compare.f (a b : ByteArray) : Option Int := some (Lib.compareBytes a.data.toList b.data.toList)
theorem utf_Compare.calls (a0 a1 : ByteArray) (r : Int) (w : World) (h : utf_Compare.f a0 a1 = some r) :
    Calls Try.prog 72 #[.string a0, .string a1] w fun e w' => e = .returned (.int .i64 r) ∧ Drawn0 w w' := by
  obtain rfl := Option.some.inj h
  generalize hc : Lib.compareBytes a0.data.toList a1.data.toList = c
  go_enter Try.func72, Try.ntmps72
  go_wp2_with (go_at_call 63; refine (Try.strings_Compare a0 a1 _).mono ?_; rw [hc]; rintro e w1 ⟨rfl, rfl⟩)
  go_ret
  exact ⟨rfl, Drawn0.refl _⟩
end Go.Proofs.Ytjdldlphfifggaa.X
end
section
namespace Go.Proofs.Ytjdldlphfifggaa.X
open Go.RowKit Go.Proofs.YtjdldlphfifggaaW.PrintWords Go.Proofs.YtjdldlphfifggaaW.PrintLast Go.Proofs.YtjdldlphfifggaaW.PrintMore
attribute [local go_sem] max2_int min2_int max_two min_two max_three min_three max_four min_four
set_option linter.unusedVariables false
set_option linter.unusedSimpArgs false
def sealringref03_All.l0 : Nat → ByteArray → List Int → List Int → Int → Option (List Int × List Int × Int)
  | 0, _, _, _, _ => none
  | k + 1, x0, x5, x6, x7 => if x7 < (x0.size : Int) then ((sealringref03_Next.f k x0 x7).bind fun bt382 => (if bt382.2 = 0 then (some (x5, x6, x7)) else (if x5.length < 17592186044416 then (if x6.length < 17592186044416 then (sealringref03_All.l0 k x0 (x5 ++ [bt382.1]) (x6 ++ [x7]) (wrap64 (x7 + bt382.2))) else (none)) else (none)))) else (some (x5, x6, x7))
def sealringref03_All.f (k : Nat) (a0 : ByteArray) : Option (List Int × List Int × Int) := sealringref03_All.l0 k a0 ([] : List Int) ([] : List Int) 0
theorem sealringref03_All.mono_l : ∀ k, (∀ y0 y1 y2 y3, LeO (sealringref03_All.l0 k y0 y1 y2 y3) (sealringref03_All.l0 (k + 1) y0 y1 y2 y3))
  | 0 => fun _ _ _ _ r h => by simp [sealringref03_All.l0] at h
  | k + 1 => by
    have ih0 := sealringref03_All.mono_l k
    · intro y0 y1 y2 y3
      unfold sealringref03_All.l0
      repeat' first
      | (with_reducible exact ih0 _ _ _ _)
      | (with_reducible exact sealringref03_Next.mono _ _ _)
      | (with_reducible exact LeO.refl _)
      | (with_reducible exact LeO.none _)
      | (with_reducible refine LeO.ite ?_ ?_)
      | (with_reducible refine LeO.bind ?_ (fun _ => ?_))
      | exact ih0 _ _ _ _
      | exact sealringref03_Next.mono _ _ _
      | exact LeO.none _
      | refine LeO.ite ?_ ?_
      | refine LeO.bind ?_ (fun _ => ?_)
theorem sealringref03_All.mono : ∀ a0 k, LeO (sealringref03_All.f k a0) (sealringref03_All.f (k + 1) a0) := by
  intro a0 k
  have ih0 := sealringref03_All.mono_l k
  unfold sealringref03_All.f
  repeat' first
      | (with_reducible exact ih0 _ _ _ _)
      | (with_reducible exact sealringref03_Next.mono _ _ _)
      | (with_reducible exact LeO.refl _)
      | (with_reducible exact LeO.none _)
      | (with_reducible refine LeO.ite ?_ ?_)
      | (with_reducible refine LeO.bind ?_ (fun _ => ?_))
      | exact ih0 _ _ _ _
      | exact sealringref03_Next.mono _ _ _
      | exact LeO.none _
      | refine LeO.ite ?_ ?_
      | refine LeO.bind ?_ (fun _ => ?_)
set_option maxHeartbeats 8000000 in
set_option maxRecDepth 100000 in
theorem sealringref03_All.calls (k : Nat) (a0 : ByteArray) (r1 : List Int) (r2 : List Int) (r3 : Int) (w : World) (h : sealringref03_All.f k a0 = some (r1, r2, r3)) :
    Calls Try.prog 137 #[.string a0] w fun e w' => ∃ v0_ v1_ : Value, e = .returned (.tuple #[v0_, v1_, .int .i64 r3]) ∧ Kd.R (Kd.int .i64) 2 w' w.heap.size (fun _ => True) v0_ r1 ∧ Kd.R (Kd.int .i64) 3 w' w.heap.size (fun _ => True) v1_ r2 ∧ Below w.heap.size w w' := by
  have HB := Aside0.mk (Below.refl w.heap.size w)
  have H : (sealringref03_All.l0 k a0 ([] : List Int) ([] : List Int) 0) = some (r1, r2, r3) := h
  clear h
  have H' := Aside0.mk H
  clear H
  go_enter Try.func137, Try.ntmps137
  go_wp2
  go_loopg [5, 6, 7] k (fun kq v5 v6 v7 w' => ∃ (x5_1 : List Int) (x6_1 : List Int) (x7_1 : Int), v7 = .int .i64 x7_1 ∧ Aside0 (sealringref03_All.l0 kq a0 x5_1 x6_1 x7_1 = some (r1, r2, r3)) ∧ Aside0 (kq ≤ k) ∧ Aside0 (Kd.R (Kd.int .i64) 2 w' w.heap.size (fun _ => True) v5 x5_1) ∧ Aside0 (Kd.R (Kd.int .i64) 3 w' w.heap.size (fun _ => True) v6 x6_1) ∧ Aside0 (Below w.heap.size w w'))
  case atStart => exact ⟨(([] : List Int)), (([] : List Int)), (0), (by first | rfl | (simp; done) | (simp [*]; done)), (by first | with_reducible exact H' | exact H' | (subst_vars; exact H')), ⟨Nat.le_refl _⟩, ⟨by first | exact Kd.R_nil _ _ _ _ _ | exact Kd.N_nil _ _ _ _ _ | exact Kd.V_nil _ _ _ _ _ | exact Kd.Q_nil _ _ _ _ _ | exact Kd.S_nil _ _ _ _ _⟩, ⟨by first | exact Kd.R_nil _ _ _ _ _ | exact Kd.N_nil _ _ _ _ _ | exact Kd.V_nil _ _ _ _ _ | exact Kd.Q_nil _ _ _ _ _ | exact Kd.S_nil _ _ _ _ _⟩, ⟨by repeat (first | (with_reducible first | exact HB.out | apply below_alloc | apply pw_below_drewN | apply below_drew1) | exact HB.out)⟩⟩
  case round =>
    clear H'
    try clear c1
    obtain ⟨x5_1, x6_1, x7_1, rfl, HA, HK1, HO_5, HO_6, HB⟩ := hrel
    cases gk with
    | zero => exact absurd HA.out (by simp [sealringref03_All.l0])
    | succ k1 =>
      have H := HA.out
      clear HA
      simp only [sealringref03_All.l0] at H
      by_cases c2 : x7_1 < (a0.size : Int)
      · rw [if_pos c2] at H
        have c2b0 : decide (x7_1 < (a0.size : Int)) = true := decide_eq_true c2
        clear c2
        replace H := Option.bind_eq_some_iff.mp H
        obtain ⟨⟨t382, t383⟩, A30, H⟩ := H
        replace H : (if t383 = 0 then (some (x5_1, x6_1, x7_1)) else (if x5_1.length < 17592186044416 then (if x6_1.length < 17592186044416 then (sealringref03_All.l0 k1 a0 (x5_1 ++ [t382]) (x6_1 ++ [x7_1]) (wrap64 (x7_1 + t383))) else (none)) else (none))) = some (r1, r2, r3) := H
        have A3 := Aside0.mk A30
        clear A30
        by_cases c4 : t383 = 0
        · rw [if_pos c4] at H
          have c4b0 : (t383 == 0) = true := beq_iff_eq.mpr c4
          have c4b1 : (t383 != 0) = false := bne_eq_false_iff_eq.mpr c4
          clear c4
          simp only [Option.some.injEq, Prod.mk.injEq] at H
          obtain ⟨rfl, rfl, rfl⟩ := H
          go_wp2_with (first | ((with_reducible refine gate_callee (f := 152) rfl ?_); refine goesL_ (some 17) rfl rfl Try.func152 (by kernel_rfl) rfl #[.string a0, .int .i64 x7_1] rfl (by (try simp only [List.map_toArray, List.map_cons, List.map_nil]); first | done | rfl | (simp only [List.length_drop, List.length_take]; rfl)) ?_; (with_reducible refine (sealringref03_Next.calls k1 a0 x7_1 t382 t383 _ A3.out).mono ?_); rintro e w5 ⟨rfl, hb⟩; refine ⟨_, rfl, ?_⟩; have n0_ := Aside0.mk (Kd.R_below (by (with_reducible repeat (first | apply Kd.R_alloc | apply Kd.R_drewN | apply Kd.R_drew)); exact HO_5.out) hb); have n1_ := Aside0.mk (Kd.R_below (by (with_reducible repeat (first | apply Kd.R_alloc | apply Kd.R_drewN | apply Kd.R_drew)); exact HO_6.out) hb); have n2_ := Aside0.mk (below_step (by repeat (first | (with_reducible first | exact HB.out | apply below_alloc | apply pw_below_drewN | apply below_drew1) | exact HB.out)) hb); clear HO_5; clear HO_6; clear HB; have HO_5 := n0_; have HO_6 := n1_; have HB := n2_; clear n0_ n1_ n2_; (try clear hb); (try clear hb2); (try clear hk); (try clear hi)))
          go_ret3
          exact ⟨_, _, by first | rfl | (simp [errW_none, errW_some] <;> rfl) | (simp [*, errW_none, errW_some] <;> rfl), by (with_reducible repeat (first | apply Kd.R_alloc | apply Kd.R_drewN | apply Kd.R_drew)); exact HO_5.out, by (with_reducible repeat (first | apply Kd.R_alloc | apply Kd.R_drewN | apply Kd.R_drew)); exact HO_6.out, by repeat (first | (with_reducible first | exact HB.out | apply below_alloc | apply pw_below_drewN | apply below_drew1) | exact HB.out)⟩
        · rw [if_neg c4] at H
          have c4b0 : (t383 == 0) = false := beq_eq_false_iff_ne.mpr c4
          have c4b1 : (t383 != 0) = true := bne_iff_ne.mpr c4
          by_cases c6 : x5_1.length < 17592186044416
          · rw [if_pos c6] at H
            have LMc6 := Aside0.mk c6
            clear c6
            obtain ⟨y384, hy384⟩ : ∃ y_ : List Int, y_ = (x5_1 ++ [t382]) := ⟨_, rfl⟩
            replace H : (if x6_1.length < 17592186044416 then (sealringref03_All.l0 k1 a0 y384 (x6_1 ++ [x7_1]) (wrap64 (x7_1 + t383))) else (none)) = some (r1, r2, r3) := by first | (rw [hy384]; with_reducible exact H) | (have H2_ := (Option.bind_some _ _).symm.trans H; rw [hy384]; with_reducible exact H2_) | (have H2_ := (Option.bind_some _ _).symm.trans H; with_reducible exact H2_) | with_reducible exact H | (rw [hy384]; exact H) | exact H
            have Ny384 := Aside0.mk hy384
            clear hy384
            by_cases c7 : x6_1.length < 17592186044416
            · rw [if_pos c7] at H
              have LMc7 := Aside0.mk c7
              clear c7
              obtain ⟨y387, hy387⟩ : ∃ y_ : List Int, y_ = (x6_1 ++ [x7_1]) := ⟨_, rfl⟩
              replace H : (sealringref03_All.l0 k1 a0 y384 y387 (wrap64 (x7_1 + t383))) = some (r1, r2, r3) := by first | (rw [hy387]; with_reducible exact H) | (have H2_ := (Option.bind_some _ _).symm.trans H; rw [hy387]; with_reducible exact H2_) | (have H2_ := (Option.bind_some _ _).symm.trans H; with_reducible exact H2_) | with_reducible exact H | (rw [hy387]; exact H) | exact H
              have Ny387 := Aside0.mk hy387
              clear hy387
              have H' := Aside0.mk H
              clear H
              go_wp2_with (first | ((with_reducible refine gate_callee (f := 152) rfl ?_); refine goesL_ (some 17) rfl rfl Try.func152 (by kernel_rfl) rfl #[.string a0, .int .i64 x7_1] rfl (by (try simp only [List.map_toArray, List.map_cons, List.map_nil]); first | done | rfl | (simp only [List.length_drop, List.length_take]; rfl)) ?_; (with_reducible refine (sealringref03_Next.calls k1 a0 x7_1 t382 t383 _ A3.out).mono ?_); rintro e w8 ⟨rfl, hb⟩; refine ⟨_, rfl, ?_⟩; have n0_ := Aside0.mk (Kd.R_below (by (with_reducible repeat (first | apply Kd.R_alloc | apply Kd.R_drewN | apply Kd.R_drew)); exact HO_5.out) hb); have n1_ := Aside0.mk (Kd.R_below (by (with_reducible repeat (first | apply Kd.R_alloc | apply Kd.R_drewN | apply Kd.R_drew)); exact HO_6.out) hb); have n2_ := Aside0.mk (below_step (by repeat (first | (with_reducible first | exact HB.out | apply below_alloc | apply pw_below_drewN | apply below_drew1) | exact HB.out)) hb); clear HO_5; clear HO_6; clear HB; have HO_5 := n0_; have HO_6 := n1_; have HB := n2_; clear n0_ n1_ n2_; (try clear hb); (try clear hb2); (try clear hk); (try clear hi)) | ((with_reducible refine gate_builtin (b := .append) (xs := #[.tmp 25, .tmp 27]) rfl ?_); at_builtin; refine Kd.R_append (Kd.int .i64) (w0 := w) w.heap.size rfl (.tmp 25) (.tmp 27) 159 2 (.int .i64 0) 8 rfl Try.underlying159 info2 rfl (by decide) (by omega) u5 x5_1 t382 [.int .i64 t382] (fun _ => True) (fun _ => False) rfl rfl ?aP (fun _ hk => hk.elim) ?aF ?aO ?aB ?aS ?aL ?_; (case aP => exact rfl); (case aB => exact (by repeat (first | (with_reducible first | exact HB.out | apply below_alloc | apply pw_below_drewN | apply below_drew1) | exact HB.out))); (case aF => exact (fun _ _ => trivial)); (case aO => exact (by (with_reducible repeat (first | apply Kd.R_alloc | apply Kd.R_drewN | apply Kd.R_drew)); exact HO_5.out)); (case aS => exact (below_size (by repeat (first | (with_reducible first | exact HB.out | apply below_alloc | apply pw_below_drewN | apply below_drew1) | exact HB.out)))); (case aL => have := LMc6.out; omega); intro v385 w9 ho hb hg hat; rw [← Ny384.out] at ho; have n0_ := Aside0.mk (Kd.R_over' (by (with_reducible repeat (first | apply Kd.R_alloc | apply Kd.R_drewN | apply Kd.R_drew)); exact HO_6.out) (Kd.R_typed (by (with_reducible repeat (first | apply Kd.R_alloc | apply Kd.R_drewN | apply Kd.R_drew)); exact HO_5.out)) (by decide) hg); have n1_ := Aside0.mk (hb); have n2_ := Aside0.mk (ho); clear HO_6; clear HB; clear HO_5; have HO_6 := n0_; have HB := n1_; have HO386 := n2_; clear n0_ n1_ n2_; clear ho hb hg hat) | ((with_reducible refine gate_builtin (b := .append) (xs := #[.tmp 29, .tmp 31]) rfl ?_); at_builtin; refine Kd.R_append (Kd.int .i64) (w0 := w) w.heap.size rfl (.tmp 29) (.tmp 31) 135 3 (.int .i64 0) 8 rfl Try.underlying135 info3 rfl (by decide) (by omega) u6 x6_1 x7_1 [.int .i64 x7_1] (fun _ => True) (fun _ => False) rfl rfl ?aP (fun _ hk => hk.elim) ?aF ?aO ?aB ?aS ?aL ?_; (case aP => exact rfl); (case aB => exact (by repeat (first | (with_reducible first | exact HB.out | apply below_alloc | apply pw_below_drewN | apply below_drew1) | exact HB.out))); (case aF => exact (fun _ _ => trivial)); (case aO => exact (by (with_reducible repeat (first | apply Kd.R_alloc | apply Kd.R_drewN | apply Kd.R_drew)); exact HO_6.out)); (case aS => exact (below_size (by repeat (first | (with_reducible first | exact HB.out | apply below_alloc | apply pw_below_drewN | apply below_drew1) | exact HB.out)))); (case aL => have := LMc7.out; omega); intro v388 w10 ho hb hg hat; rw [← Ny387.out] at ho; have n0_ := Aside0.mk (Kd.R_over' (by (with_reducible repeat (first | apply Kd.R_alloc | apply Kd.R_drewN | apply Kd.R_drew)); exact HO386.out) (Kd.R_typed (by (with_reducible repeat (first | apply Kd.R_alloc | apply Kd.R_drewN | apply Kd.R_drew)); exact HO_6.out)) (by decide) hg); have n1_ := Aside0.mk (hb); have n2_ := Aside0.mk (ho); clear HO386; clear HB; clear HO_6; have HO386 := n0_; have HB := n1_; have HO389 := n2_; clear n0_ n1_ n2_; clear ho hb hg hat))
              go_roundg k1
              case measure => have := HK1.out; omega
              case rel => exact ⟨(y384), (y387), (wrap64 (x7_1 + t383)), (by first | rfl | (simp; done) | (simp [*]; done)), (by first | with_reducible exact H' | exact H' | (subst_vars; exact H')), ⟨by have := HK1.out; omega⟩, ⟨by (with_reducible repeat (first | apply Kd.R_alloc | apply Kd.R_drewN | apply Kd.R_drew)); exact HO386.out⟩, ⟨by (with_reducible repeat (first | apply Kd.R_alloc | apply Kd.R_drewN | apply Kd.R_drew)); exact HO389.out⟩, ⟨by repeat (first | (with_reducible first | exact HB.out | apply below_alloc | apply pw_below_drewN | apply below_drew1) | exact HB.out)⟩⟩
            · rw [if_neg c7] at H
              exact absurd H (by simp)
          · rw [if_neg c6] at H
            exact absurd H (by simp)
      · rw [if_neg c2] at H
        have c2b0 : decide (x7_1 < (a0.size : Int)) = false := decide_eq_false c2
        clear c2
        simp only [Option.some.injEq, Prod.mk.injEq] at H
        obtain ⟨rfl, rfl, rfl⟩ := H
        go_wp2
        go_ret3
        exact ⟨_, _, by first | rfl | (simp [errW_none, errW_some] <;> rfl) | (simp [*, errW_none, errW_some] <;> rfl), by (with_reducible repeat (first | apply Kd.R_alloc | apply Kd.R_drewN | apply Kd.R_drew)); exact HO_5.out, by (with_reducible repeat (first | apply Kd.R_alloc | apply Kd.R_drewN | apply Kd.R_drew)); exact HO_6.out, by repeat (first | (with_reducible first | exact HB.out | apply below_alloc | apply pw_below_drewN | apply below_drew1) | exact HB.out)⟩
end Go.Proofs.Ytjdldlphfifggaa.X
end
section
namespace Go.Proofs.Ytjdldlphfifggaa.X
open Go.RowKit Go.Proofs.YtjdldlphfifggaaW.PrintWords Go.Proofs.YtjdldlphfifggaaW.PrintLast Go.Proofs.YtjdldlphfifggaaW.PrintMore
attribute [local go_sem] max2_int min2_int max_two min_two max_three min_three max_four min_four
set_option linter.unusedVariables false
set_option linter.unusedSimpArgs false
def sealringref03_Valid.f (k : Nat) (a0 : ByteArray) : Option (Bool) := (sealringref03_All.f k a0).bind fun bt390 => (some (bt390.2.2 == (a0.size : Int)))
theorem sealringref03_Valid.mono : ∀ a0 k, LeO (sealringref03_Valid.f k a0) (sealringref03_Valid.f (k + 1) a0) := by
  intro a0 k
  unfold sealringref03_Valid.f
  repeat' first
      | (with_reducible exact sealringref03_All.mono _ _)
      | (with_reducible exact LeO.refl _)
      | (with_reducible exact LeO.none _)
      | (with_reducible refine LeO.ite ?_ ?_)
      | (with_reducible refine LeO.bind ?_ (fun _ => ?_))
      | exact sealringref03_All.mono _ _
      | exact LeO.none _
      | refine LeO.ite ?_ ?_
      | refine LeO.bind ?_ (fun _ => ?_)
set_option maxHeartbeats 8000000 in
set_option maxRecDepth 100000 in
theorem sealringref03_Valid.calls (k : Nat) (a0 : ByteArray) (r : Bool) (w : World) (h : sealringref03_Valid.f k a0 = some r) :
    Calls Try.prog 111 #[.string a0] w fun e w' => e = .returned (.bool r) ∧ Below w.heap.size w w' := by
  have HB := Aside0.mk (Below.refl w.heap.size w)
  have H : ((sealringref03_All.f k a0).bind fun bt390 => (some (bt390.2.2 == (a0.size : Int)))) = some r := h
  clear h
  replace H := Option.bind_eq_some_iff.mp H
  obtain ⟨⟨t390, t391, t392⟩, A20, H⟩ := H
  replace H : (some (t392 == (a0.size : Int))) = some r := H
  have A2 := Aside0.mk A20
  clear A20
  obtain rfl := Option.some.inj H
  go_enter Try.func111, Try.ntmps111
  go_wp2_with (first | ((with_reducible refine gate_callee (f := 137) rfl ?_); refine goesL_ (some 8) rfl rfl Try.func137 (by kernel_rfl) rfl #[.string a0] rfl (by (try simp only [List.map_toArray, List.map_cons, List.map_nil]); first | done | rfl | (simp only [List.length_drop, List.length_take]; rfl)) ?_; (with_reducible refine (sealringref03_All.calls k a0 t390 t391 t392 _ A2.out).mono ?_); rintro e w3 ⟨v393, v395, rfl, ho0, ho1, hb⟩; refine ⟨_, rfl, ?_⟩; have n0_ := Aside0.mk (Kd.R_lower ho0 (below_size (by repeat (first | (with_reducible first | exact HB.out | apply below_alloc | apply pw_below_drewN | apply below_drew1) | exact HB.out)))); have n1_ := Aside0.mk (Kd.R_lower ho1 (below_size (by repeat (first | (with_reducible first | exact HB.out | apply below_alloc | apply pw_below_drewN | apply below_drew1) | exact HB.out)))); have n2_ := Aside0.mk (below_step (by repeat (first | (with_reducible first | exact HB.out | apply below_alloc | apply pw_below_drewN | apply below_drew1) | exact HB.out)) hb); clear HB; have HO394 := n0_; have HO396 := n1_; have HB := n2_; clear n0_ n1_ n2_; (try clear hb); (try clear hb2); (try clear hk); (try clear hi); (try clear ho0); (try clear ho1)))
  go_ret
  exact ⟨by first | rfl | (simp [errW_none, errW_some] <;> rfl) | (simp [*, errW_none, errW_some] <;> rfl), by repeat (first | (with_reducible first | exact HB.out | apply below_alloc | apply pw_below_drewN | apply below_drew1) | exact HB.out)⟩
end Go.Proofs.Ytjdldlphfifggaa.X
end
section
namespace Go.Proofs.Ytjdldlphfifggaa.X
open Go.RowKit Go.Proofs.YtjdldlphfifggaaW.PrintWords Go.Proofs.YtjdldlphfifggaaW.PrintLast
set_option linter.unusedVariables false
set_option linter.unusedSimpArgs false
section
variable (s : ByteArray) (hs : s.size ≤ 140737488351232)
include hs
theorem uAll_go : ∀ (f a : Nat), s.size < f + a → Ev (fun k => utf_All.l0 k s (a : Int)) ((decs s f a).1.map (fun x => ((x.1 : Int), x.2)), ((decs s f a).2 : Int)) := by
  intro f
  induction f with
  | zero =>
    intro a ha
    refine Ev.step (f := fun _ => some ([], (a : Int))) (fun k => ?_) (Ev.now _)
    rw [utf_All.l0, if_neg (by omega)]
  | succ f ih =>
    intro a ha
    by_cases c : a < s.size
    · refine Ev.step (f := fun k => (utf_Next.f k s (a : Int)).bind fun x => if x.2.2 = true then (utf_All.l0 k s (wrap64 ((a : Int) + x.2.1))).map fun y => (((a : Int), x.1) :: y.1, y.2) else some ([], (a : Int))) (fun k => ?_) ?_
      · rw [utf_All.l0, if_pos (by omega)]
      · refine Ev.bind (f := fun k x => if x.2.2 = true then (utf_All.l0 k s (wrap64 ((a : Int) + x.2.1))).map fun y => (((a : Int), x.1) :: y.1, y.2) else some ([], (a : Int))) (Next_ev s hs a) ?_
        cases hd : dec s a with
        | none =>
          simp only [decs, hd, decT]
          exact evNeg (by simp) (Ev.now _)
        | some vn =>
          obtain ⟨v, n⟩ := vn
          have hr := dec_range hd
          have hf := dec_form hd
          simp only [decs, hd, decT]
          refine evPos (by trivial) ?_
          have h2 := ih (a + n) (by omega)
          rw [w64 (by omega) (by omega), show (a : Int) + (n : Int) = ((a + n : Nat) : Int) by omega]
          obtain ⟨K, hK⟩ := h2
          refine ⟨K, fun k hk => ?_⟩
          have h3 : utf_All.l0 k s ((a + n : Nat) : Int) = some ((decs s f (a + n)).1.map (fun x => ((x.1 : Int), x.2)), ((decs s f (a + n)).2 : Int)) := hK k hk
          show Option.map _ (utf_All.l0 k s ((a + n : Nat) : Int)) = _
          rw [h3]
          rfl
    · have hd : dec s a = none := by unfold dec; rw [if_pos c]
      simp only [decs, hd]
      refine Ev.step (f := fun _ => some ([], (a : Int))) (fun k => ?_) (Ev.now _)
      rw [utf_All.l0, if_neg (by omega)]
end
def endOf (s : ByteArray) : Nat := (decs s (s.size + 1) 0).2
theorem beq_dec (x y : Nat) : (((x : Int)) == ((y : Int))) = decide (x = y) := by
  by_cases h : x = y
  · subst h; simp
  · rw [decide_eq_false h]
    exact beq_eq_false_iff_ne.2 (fun e => h (by omega))
theorem Valid_ev (s : ByteArray) (hs : s.size ≤ 140737488351232) : Ev (fun k => utf_Valid.f k s) (decide (endOf s = s.size)) := by
  unfold utf_Valid.f
  refine Ev.bind (f := fun k y => some (utf_end y.1 == (s.size : Int))) (uAll_go s hs (s.size + 1) 0 (by omega)) ?_
  have : (utf_end ((decs s (s.size + 1) 0).1.map (fun x => ((x.1 : Int), x.2))) == (s.size : Int)) = decide (endOf s = s.size) := by
    unfold endOf
    rcases decs_end s (s.size + 1) 0 with ⟨h1, h2⟩ | ⟨p, v, n, h1, h2, h3, h4⟩
    · rw [h1, h2]
      exact beq_dec 0 s.size
    · unfold utf_end
      rw [List.getLast?_map, h1]
      simp only [Option.map_some]
      rw [h2, w64 (by omega) (by omega), h3, show (p : Int) + (n : Int) = ((p + n : Nat) : Int) by omega]
      exact beq_dec _ _
  rw [this]
  exact Ev.now _
end Go.Proofs.Ytjdldlphfifggaa.X
end
section
namespace Go.Proofs.Ytjdldlphfifggaa.X
open Go.RowKit Go.Proofs.YtjdldlphfifggaaW.PrintWords Go.Proofs.YtjdldlphfifggaaW.PrintLast Go.Proofs.YtjdldlphfifggaaW.PrintMore
attribute [local go_sem] max2_int min2_int max_two min_two max_three min_three max_four min_four
set_option linter.unusedVariables false
set_option linter.unusedSimpArgs false
def tree_own.j0 : Nat → Int → Bool → Int → Int → ByteArray → List ByteArray → List (S25) → Option (Bool)
  | 0, _, _, _, _, _, _, _ => none
  | k + 1, x4, x27, x415000, x415001, x415002, x415003, x415004 => if x27 = true then (if x415002.toList = ([] : List UInt8) then (if (x415003.length : Int) = 0 then (some ((x415004.length : Int) == 0)) else (some false)) else (some false)) else (if x4 = 4 then (if x415001 = 0 then (if (x415003.length : Int) = 0 then (some ((x415004.length : Int) == 0)) else (some false)) else (some false)) else (if x4 = 5 then (if x415001 = 0 then (if x415002.toList = ([] : List UInt8) then (some ((x415003.length : Int) == 0)) else (some false)) else (some false)) else (if x4 = 6 then (if x415001 = 0 then (some (x415002.toList == ([] : List UInt8))) else (some false)) else (some false))))
def tree_own.f (k : Nat) (a0_0 : Int) (a0_1 : Int) (a0_2 : ByteArray) (l0_3 : List ByteArray) (l0_4 : List (S25)) : Option (Bool) := if a0_0 = 1 then (if a0_1 = 0 then (if a0_2.toList = ([] : List UInt8) then (if (l0_3.length : Int) = 0 then (some ((l0_4.length : Int) == 0)) else (some false)) else (some false)) else (some false)) else (if a0_0 = 2 then (tree_own.j0 k a0_0 (a0_0 == 2) a0_0 a0_1 a0_2 l0_3 l0_4) else (tree_own.j0 k a0_0 (a0_0 == 3) a0_0 a0_1 a0_2 l0_3 l0_4))
theorem tree_own.mono_l : ∀ k, (∀ y0 y1 y2 y3 y4 y5 y6, LeO (tree_own.j0 k y0 y1 y2 y3 y4 y5 y6) (tree_own.j0 (k + 1) y0 y1 y2 y3 y4 y5 y6))
  | 0 => fun _ _ _ _ _ _ _ r h => by simp [tree_own.j0] at h
  | k + 1 => by
    have ih0 := tree_own.mono_l k
    · intro y0 y1 y2 y3 y4 y5 y6
      unfold tree_own.j0
      repeat' first
      | (with_reducible exact ih0 _ _ _ _ _ _ _)
      | (with_reducible exact LeO.refl _)
      | (with_reducible exact LeO.none _)
      | (with_reducible refine LeO.ite ?_ ?_)
      | (with_reducible refine LeO.bind ?_ (fun _ => ?_))
      | exact ih0 _ _ _ _ _ _ _
      | exact LeO.none _
      | refine LeO.ite ?_ ?_
      | refine LeO.bind ?_ (fun _ => ?_)
theorem tree_own.mono : ∀ a0 a1 a2 a3 a4 k, LeO (tree_own.f k a0 a1 a2 a3 a4) (tree_own.f (k + 1) a0 a1 a2 a3 a4) := by
  intro a0 a1 a2 a3 a4 k
  have ih0 := tree_own.mono_l k
  unfold tree_own.f
  repeat' first
      | (with_reducible exact ih0 _ _ _ _ _ _ _)
      | (with_reducible exact LeO.refl _)
      | (with_reducible exact LeO.none _)
      | (with_reducible refine LeO.ite ?_ ?_)
      | (with_reducible refine LeO.bind ?_ (fun _ => ?_))
      | exact ih0 _ _ _ _ _ _ _
      | exact LeO.none _
      | refine LeO.ite ?_ ?_
      | refine LeO.bind ?_ (fun _ => ?_)
set_option maxHeartbeats 8000000 in
set_option maxRecDepth 100000 in
theorem tree_own.calls (k : Nat) (a0_0 : Int) (a0_1 : Int) (a0_2 : ByteArray) (A0_3 : Option Addr) (c0_3 : Nat) (l0_3 : List ByteArray) (A0_4 : Option Addr) (c0_4 : Nat) (l0_4 : List (S25)) (r : Bool) (w : World) (hr0_3 : Kd.C Kd.string w A0_3 l0_3.length l0_3) (hc0_3 : l0_3.length ≤ c0_3) (hr0_4 : Kd.C k25 w A0_4 l0_4.length l0_4) (hc0_4 : l0_4.length ≤ c0_4) (h : tree_own.f k a0_0 a0_1 a0_2 l0_3 l0_4 = some r) :
    Calls Try.prog 138 #[.agg #[.int .i64 a0_0, .int .i64 a0_1, .string a0_2, .slice A0_3 l0_3.length c0_3, .slice A0_4 l0_4.length c0_4]] w fun e w' => e = .returned (.bool r) ∧ Below w.heap.size w w' := by
  have hu25 := Try.underlying25
  have HR0_3 := Aside0.mk hr0_3
  have HC0_3 := Aside0.mk hc0_3
  clear hr0_3 hc0_3
  have HR0_4 := Aside0.mk hr0_4
  have HC0_4 := Aside0.mk hc0_4
  clear hr0_4 hc0_4
  have HB := Aside0.mk (Below.refl w.heap.size w)
  have H : (if a0_0 = 1 then (if a0_1 = 0 then (if a0_2.toList = ([] : List UInt8) then (if (l0_3.length : Int) = 0 then (some ((l0_4.length : Int) == 0)) else (some false)) else (some false)) else (some false)) else (if a0_0 = 2 then (tree_own.j0 k a0_0 (a0_0 == 2) a0_0 a0_1 a0_2 l0_3 l0_4) else (tree_own.j0 k a0_0 (a0_0 == 3) a0_0 a0_1 a0_2 l0_3 l0_4))) = some r := h
  clear h
  by_cases c2 : a0_0 = 1
  · rw [if_pos c2] at H
    have c2b0 : (a0_0 == 1) = true := beq_iff_eq.mpr c2
    have c2b1 : (a0_0 != 1) = false := bne_eq_false_iff_eq.mpr c2
    clear c2
    by_cases c3 : a0_1 = 0
    · rw [if_pos c3] at H
      have c3b0 : (a0_1 == 0) = true := beq_iff_eq.mpr c3
      have c3b1 : (a0_1 != 0) = false := bne_eq_false_iff_eq.mpr c3
      clear c3
      by_cases c4 : a0_2.toList = ([] : List UInt8)
      · rw [if_pos c4] at H
        have c4b0 : (a0_2.toList == ([] : List UInt8)) = true := beq_iff_eq.mpr c4
        have c4b1 : (a0_2.toList != ([] : List UInt8)) = false := bne_eq_false_iff_eq.mpr c4
        clear c4
        by_cases c5 : (l0_3.length : Int) = 0
        · rw [if_pos c5] at H
          have c5b0 : ((l0_3.length : Int) == 0) = true := beq_iff_eq.mpr c5
          have c5b1 : ((l0_3.length : Int) != 0) = false := bne_eq_false_iff_eq.mpr c5
          clear c5
          obtain rfl := Option.some.inj H
          go_enter Try.func138, Try.ntmps138
          go_wp2_with (first | ((with_reducible refine gate_dst (N := 1) rfl ?_); (try (refine gate_guard (by rfl) ?_; dsimp only)); refine box_event ?hg (N := 1) ?hd (cs := #[.int .i64 a0_0, .int .i64 a0_1, .string a0_2, .slice A0_3 l0_3.length c0_3, .slice A0_4 l0_4.length c0_4]) (t := 25) ?hr ?_; (case hd => rfl); (case hg => rfl); (case hr => first | (go_simp; done) | (go_simp; rfl)); intro gb414 hg w6 hbox hb; have n0_ := Aside0.mk (below_step (by repeat (first | (with_reducible first | exact HB.out | apply below_alloc | apply pw_below_drewN | apply below_drew1) | exact HB.out)) hb); have n1_ := Aside0.mk (hbox); have n2_ := Aside0.mk ((by rw [hg]; exact (below_size (by repeat (first | (with_reducible first | exact HB.out | apply below_alloc | apply pw_below_drewN | apply below_drew1) | exact HB.out))) : w.heap.size ≤ gb414)); have n3_ := Aside0.mk ((by rw [hg]; exact (below_size (by repeat (first | (with_reducible first | exact HB.out | apply below_alloc | apply pw_below_drewN | apply below_drew1) | exact HB.out))) : w.heap.size ≤ gb414)); clear HB; have HB := n0_; have BK414 := n1_; have GW414 := n2_; have GE414 := n3_; clear n0_ n1_ n2_ n3_; clear hb hbox hg; have hcz7_0 : w6.cell? ⟨gb414, 0, none⟩ = some (.int .i64 a0_0) := (blk_cell BK414.out 0).trans rfl; have hcz7_1 : w6.cell? ⟨gb414, 1, none⟩ = some (.int .i64 a0_1) := (blk_cell BK414.out 1).trans rfl; have hcz7_2 : w6.cell? ⟨gb414, 2, none⟩ = some (.string a0_2) := (blk_cell BK414.out 2).trans rfl; have hcz7_3 : w6.cell? ⟨gb414, 3, none⟩ = some (.slice A0_3 l0_3.length c0_3) := (blk_cell BK414.out 3).trans rfl; have hcz7_4 : w6.cell? ⟨gb414, 4, none⟩ = some (.slice A0_4 l0_4.length c0_4) := (blk_cell BK414.out 4).trans rfl; have hfz7_0 := blk_frozen BK414.out 0; have hfz7_1 := blk_frozen BK414.out 1; have hfz7_2 := blk_frozen BK414.out 2; have hfz7_3 := blk_frozen BK414.out 3; have hfz7_4 := blk_frozen BK414.out 4))
          go_ret
          exact ⟨by first | rfl | (simp [errW_none, errW_some] <;> rfl) | (simp [*, errW_none, errW_some] <;> rfl), by repeat (first | (with_reducible first | exact HB.out | apply below_alloc | apply pw_below_drewN | apply below_drew1 | refine below_set ?_ GE414.out) | exact HB.out)⟩
        · rw [if_neg c5] at H
          have c5b0 : ((l0_3.length : Int) == 0) = false := beq_eq_false_iff_ne.mpr c5
          have c5b1 : ((l0_3.length : Int) != 0) = true := bne_iff_ne.mpr c5
          have c5b2 : ¬ (l0_3 = []) := fun h_ => c5 (by rw [h_]; rfl)
          obtain rfl := Option.some.inj H
          go_enter Try.func138, Try.ntmps138
          go_wp2_with (first | ((with_reducible refine gate_dst (N := 1) rfl ?_); (try (refine gate_guard (by rfl) ?_; dsimp only)); refine box_event ?hg (N := 1) ?hd (cs := #[.int .i64 a0_0, .int .i64 a0_1, .string a0_2, .slice A0_3 l0_3.length c0_3, .slice A0_4 l0_4.length c0_4]) (t := 25) ?hr ?_; (case hd => rfl); (case hg => rfl); (case hr => first | (go_simp; done) | (go_simp; rfl)); intro gb414 hg w8 hbox hb; have n0_ := Aside0.mk (below_step (by repeat (first | (with_reducible first | exact HB.out | apply below_alloc | apply pw_below_drewN | apply below_drew1) | exact HB.out)) hb); have n1_ := Aside0.mk (hbox); have n2_ := Aside0.mk ((by rw [hg]; exact (below_size (by repeat (first | (with_reducible first | exact HB.out | apply below_alloc | apply pw_below_drewN | apply below_drew1) | exact HB.out))) : w.heap.size ≤ gb414)); have n3_ := Aside0.mk ((by rw [hg]; exact (below_size (by repeat (first | (with_reducible first | exact HB.out | apply below_alloc | apply pw_below_drewN | apply below_drew1) | exact HB.out))) : w.heap.size ≤ gb414)); clear HB; have HB := n0_; have BK414 := n1_; have GW414 := n2_; have GE414 := n3_; clear n0_ n1_ n2_ n3_; clear hb hbox hg; have hcz9_0 : w8.cell? ⟨gb414, 0, none⟩ = some (.int .i64 a0_0) := (blk_cell BK414.out 0).trans rfl; have hcz9_1 : w8.cell? ⟨gb414, 1, none⟩ = some (.int .i64 a0_1) := (blk_cell BK414.out 1).trans rfl; have hcz9_2 : w8.cell? ⟨gb414, 2, none⟩ = some (.string a0_2) := (blk_cell BK414.out 2).trans rfl; have hcz9_3 : w8.cell? ⟨gb414, 3, none⟩ = some (.slice A0_3 l0_3.length c0_3) := (blk_cell BK414.out 3).trans rfl; have hcz9_4 : w8.cell? ⟨gb414, 4, none⟩ = some (.slice A0_4 l0_4.length c0_4) := (blk_cell BK414.out 4).trans rfl; have hfz9_0 := blk_frozen BK414.out 0; have hfz9_1 := blk_frozen BK414.out 1; have hfz9_2 := blk_frozen BK414.out 2; have hfz9_3 := blk_frozen BK414.out 3; have hfz9_4 := blk_frozen BK414.out 4))
          go_ret
          exact ⟨by first | rfl | (simp [errW_none, errW_some] <;> rfl) | (simp [*, errW_none, errW_some] <;> rfl), by repeat (first | (with_reducible first | exact HB.out | apply below_alloc | apply pw_below_drewN | apply below_drew1 | refine below_set ?_ GE414.out) | exact HB.out)⟩
      · rw [if_neg c4] at H
        have c4b0 : (a0_2.toList == ([] : List UInt8)) = false := beq_eq_false_iff_ne.mpr c4
        have c4b1 : (a0_2.toList != ([] : List UInt8)) = true := bne_iff_ne.mpr c4
        obtain rfl := Option.some.inj H
        go_enter Try.func138, Try.ntmps138
        go_wp2_with (first | ((with_reducible refine gate_dst (N := 1) rfl ?_); (try (refine gate_guard (by rfl) ?_; dsimp only)); refine box_event ?hg (N := 1) ?hd (cs := #[.int .i64 a0_0, .int .i64 a0_1, .string a0_2, .slice A0_3 l0_3.length c0_3, .slice A0_4 l0_4.length c0_4]) (t := 25) ?hr ?_; (case hd => rfl); (case hg => rfl); (case hr => first | (go_simp; done) | (go_simp; rfl)); intro gb414 hg w10 hbox hb; have n0_ := Aside0.mk (below_step (by repeat (first | (with_reducible first | exact HB.out | apply below_alloc | apply pw_below_drewN | apply below_drew1) | exact HB.out)) hb); have n1_ := Aside0.mk (hbox); have n2_ := Aside0.mk ((by rw [hg]; exact (below_size (by repeat (first | (with_reducible first | exact HB.out | apply below_alloc | apply pw_below_drewN | apply below_drew1) | exact HB.out))) : w.heap.size ≤ gb414)); have n3_ := Aside0.mk ((by rw [hg]; exact (below_size (by repeat (first | (with_reducible first | exact HB.out | apply below_alloc | apply pw_below_drewN | apply below_drew1) | exact HB.out))) : w.heap.size ≤ gb414)); clear HB; have HB := n0_; have BK414 := n1_; have GW414 := n2_; have GE414 := n3_; clear n0_ n1_ n2_ n3_; clear hb hbox hg; have hcz11_0 : w10.cell? ⟨gb414, 0, none⟩ = some (.int .i64 a0_0) := (blk_cell BK414.out 0).trans rfl; have hcz11_1 : w10.cell? ⟨gb414, 1, none⟩ = some (.int .i64 a0_1) := (blk_cell BK414.out 1).trans rfl; have hcz11_2 : w10.cell? ⟨gb414, 2, none⟩ = some (.string a0_2) := (blk_cell BK414.out 2).trans rfl; have hcz11_3 : w10.cell? ⟨gb414, 3, none⟩ = some (.slice A0_3 l0_3.length c0_3) := (blk_cell BK414.out 3).trans rfl; have hcz11_4 : w10.cell? ⟨gb414, 4, none⟩ = some (.slice A0_4 l0_4.length c0_4) := (blk_cell BK414.out 4).trans rfl; have hfz11_0 := blk_frozen BK414.out 0; have hfz11_1 := blk_frozen BK414.out 1; have hfz11_2 := blk_frozen BK414.out 2; have hfz11_3 := blk_frozen BK414.out 3; have hfz11_4 := blk_frozen BK414.out 4))
        go_ret
        exact ⟨by first | rfl | (simp [errW_none, errW_some] <;> rfl) | (simp [*, errW_none, errW_some] <;> rfl), by repeat (first | (with_reducible first | exact HB.out | apply below_alloc | apply pw_below_drewN | apply below_drew1 | refine below_set ?_ GE414.out) | exact HB.out)⟩
    · rw [if_neg c3] at H
      have c3b0 : (a0_1 == 0) = false := beq_eq_false_iff_ne.mpr c3
      have c3b1 : (a0_1 != 0) = true := bne_iff_ne.mpr c3
      obtain rfl := Option.some.inj H
      go_enter Try.func138, Try.ntmps138
      go_wp2_with (first | ((with_reducible refine gate_dst (N := 1) rfl ?_); (try (refine gate_guard (by rfl) ?_; dsimp only)); refine box_event ?hg (N := 1) ?hd (cs := #[.int .i64 a0_0, .int .i64 a0_1, .string a0_2, .slice A0_3 l0_3.length c0_3, .slice A0_4 l0_4.length c0_4]) (t := 25) ?hr ?_; (case hd => rfl); (case hg => rfl); (case hr => first | (go_simp; done) | (go_simp; rfl)); intro gb414 hg w12 hbox hb; have n0_ := Aside0.mk (below_step (by repeat (first | (with_reducible first | exact HB.out | apply below_alloc | apply pw_below_drewN | apply below_drew1) | exact HB.out)) hb); have n1_ := Aside0.mk (hbox); have n2_ := Aside0.mk ((by rw [hg]; exact (below_size (by repeat (first | (with_reducible first | exact HB.out | apply below_alloc | apply pw_below_drewN | apply below_drew1) | exact HB.out))) : w.heap.size ≤ gb414)); have n3_ := Aside0.mk ((by rw [hg]; exact (below_size (by repeat (first | (with_reducible first | exact HB.out | apply below_alloc | apply pw_below_drewN | apply below_drew1) | exact HB.out))) : w.heap.size ≤ gb414)); clear HB; have HB := n0_; have BK414 := n1_; have GW414 := n2_; have GE414 := n3_; clear n0_ n1_ n2_ n3_; clear hb hbox hg; have hcz13_0 : w12.cell? ⟨gb414, 0, none⟩ = some (.int .i64 a0_0) := (blk_cell BK414.out 0).trans rfl; have hcz13_1 : w12.cell? ⟨gb414, 1, none⟩ = some (.int .i64 a0_1) := (blk_cell BK414.out 1).trans rfl; have hcz13_2 : w12.cell? ⟨gb414, 2, none⟩ = some (.string a0_2) := (blk_cell BK414.out 2).trans rfl; have hcz13_3 : w12.cell? ⟨gb414, 3, none⟩ = some (.slice A0_3 l0_3.length c0_3) := (blk_cell BK414.out 3).trans rfl; have hcz13_4 : w12.cell? ⟨gb414, 4, none⟩ = some (.slice A0_4 l0_4.length c0_4) := (blk_cell BK414.out 4).trans rfl; have hfz13_0 := blk_frozen BK414.out 0; have hfz13_1 := blk_frozen BK414.out 1; have hfz13_2 := blk_frozen BK414.out 2; have hfz13_3 := blk_frozen BK414.out 3; have hfz13_4 := blk_frozen BK414.out 4))
      go_ret
      exact ⟨by first | rfl | (simp [errW_none, errW_some] <;> rfl) | (simp [*, errW_none, errW_some] <;> rfl), by repeat (first | (with_reducible first | exact HB.out | apply below_alloc | apply pw_below_drewN | apply below_drew1 | refine below_set ?_ GE414.out) | exact HB.out)⟩
  · rw [if_neg c2] at H
    have c2b0 : (a0_0 == 1) = false := beq_eq_false_iff_ne.mpr c2
    have c2b1 : (a0_0 != 1) = true := bne_iff_ne.mpr c2
    have HC14 := Aside0.mk H
    clear H
    go_enter Try.func138, Try.ntmps138
    go_upto_if 27 with (first | ((with_reducible refine gate_dst (N := 1) rfl ?_); (try (refine gate_guard (by rfl) ?_; dsimp only)); refine box_event ?hg (N := 1) ?hd (cs := #[.int .i64 a0_0, .int .i64 a0_1, .string a0_2, .slice A0_3 l0_3.length c0_3, .slice A0_4 l0_4.length c0_4]) (t := 25) ?hr ?_; (case hd => rfl); (case hg => rfl); (case hr => first | (go_simp; done) | (go_simp; rfl)); intro gb414 hg w15 hbox hb; have n0_ := Aside0.mk (below_step (by repeat (first | (with_reducible first | exact HB.out | apply below_alloc | apply pw_below_drewN | apply below_drew1) | exact HB.out)) hb); have n1_ := Aside0.mk (hbox); have n2_ := Aside0.mk ((by rw [hg]; exact (below_size (by repeat (first | (with_reducible first | exact HB.out | apply below_alloc | apply pw_below_drewN | apply below_drew1) | exact HB.out))) : w.heap.size ≤ gb414)); have n3_ := Aside0.mk ((by rw [hg]; exact (below_size (by repeat (first | (with_reducible first | exact HB.out | apply below_alloc | apply pw_below_drewN | apply below_drew1) | exact HB.out))) : w.heap.size ≤ gb414)); clear HB; have HB := n0_; have BK414 := n1_; have GW414 := n2_; have GE414 := n3_; clear n0_ n1_ n2_ n3_; clear hb hbox hg; have hcz16_0 : w15.cell? ⟨gb414, 0, none⟩ = some (.int .i64 a0_0) := (blk_cell BK414.out 0).trans rfl; have hcz16_1 : w15.cell? ⟨gb414, 1, none⟩ = some (.int .i64 a0_1) := (blk_cell BK414.out 1).trans rfl; have hcz16_2 : w15.cell? ⟨gb414, 2, none⟩ = some (.string a0_2) := (blk_cell BK414.out 2).trans rfl; have hcz16_3 : w15.cell? ⟨gb414, 3, none⟩ = some (.slice A0_3 l0_3.length c0_3) := (blk_cell BK414.out 3).trans rfl; have hcz16_4 : w15.cell? ⟨gb414, 4, none⟩ = some (.slice A0_4 l0_4.length c0_4) := (blk_cell BK414.out 4).trans rfl; have hfz16_0 := blk_frozen BK414.out 0; have hfz16_1 := blk_frozen BK414.out 1; have hfz16_2 := blk_frozen BK414.out 2; have hfz16_3 := blk_frozen BK414.out 3; have hfz16_4 := blk_frozen BK414.out 4))
    (try simp only [Act.put, List.setIfInBounds_toArray, List.set_cons_zero, List.set_cons_succ])
    go_cut [27] (fun v27 wc => ∃ (kq : Nat) (x27_13 : Bool), v27 = .bool x27_13 ∧ Aside0 (tree_own.j0 kq a0_0 x27_13 a0_0 a0_1 a0_2 l0_3 l0_4 = some r) ∧ Aside0 (kq ≤ k) ∧ Aside0 (wc.heap[gb414]? = some (.cells #[.int .i64 a0_0, .int .i64 a0_1, .string a0_2, (.slice A0_3 l0_3.length c0_3), (.slice A0_4 l0_4.length c0_4)] 25 (0, 0))) ∧ Aside0 (Below w.heap.size w wc))
    case first =>
      have H := HC14.out
      clear HC14
      by_cases c17 : a0_0 = 2
      · rw [if_pos c17] at H
        have c17b0 : (a0_0 == 2) = true := beq_iff_eq.mpr c17
        have c17b1 : (a0_0 != 2) = false := bne_eq_false_iff_eq.mpr c17
        clear c17
        (first | rw [c17b0] | (simp only [i64_w, i32_w]; rw [c17b0]) | skip)
        have H' := Aside0.mk H
        clear H
        go_wp2
        go_meet
        case rel => exact ⟨_, ((a0_0 == 2)), (by first | rfl | (simp; done) | (simp [*]; done)), (by first | with_reducible exact H' | exact H' | (subst_vars; exact H')), ⟨by first | omega | exact Nat.le_refl _⟩, ⟨by (with_reducible repeat (first | refine blk_drewN ?_ _ | refine blk_drew ?_ | refine blk_alloc ?_ _)); exact BK414.out⟩, ⟨by repeat (first | (with_reducible first | exact HB.out | apply below_alloc | apply pw_below_drewN | apply below_drew1 | refine below_set ?_ GE414.out) | exact HB.out)⟩⟩
      · rw [if_neg c17] at H
        have c17b0 : (a0_0 == 2) = false := beq_eq_false_iff_ne.mpr c17
        have c17b1 : (a0_0 != 2) = true := bne_iff_ne.mpr c17
        (first | rw [c17b0] | (simp only [i64_w, i32_w]; rw [c17b0]) | skip)
        have H' := Aside0.mk H
        clear H
        go_wp2
        go_meet
        case rel => exact ⟨_, ((a0_0 == 3)), (by first | rfl | (simp; done) | (simp [*]; done)), (by first | with_reducible exact H' | exact H' | (subst_vars; exact H')), ⟨by first | omega | exact Nat.le_refl _⟩, ⟨by (with_reducible repeat (first | refine blk_drewN ?_ _ | refine blk_drew ?_ | refine blk_alloc ?_ _)); exact BK414.out⟩, ⟨by repeat (first | (with_reducible first | exact HB.out | apply below_alloc | apply pw_below_drewN | apply below_drew1 | refine below_set ?_ GE414.out) | exact HB.out)⟩⟩
    case rest =>
      clear HC14
      try clear c1
      try clear c2
      try clear c2b0
      try clear c2b1
      try clear p2
      try clear c3
      try clear c3b0
      try clear c3b1
      try clear c4
      try clear c4b0
      try clear c4b1
      try clear c5
      try clear c5b0
      try clear c5b1
      try clear c5b2
      try clear c13
      try clear c17
      try clear c17b0
      try clear c17b1
      try clear hcz11_0
      try clear hcz11_1
      try clear hcz11_2
      try clear hcz11_3
      try clear hcz11_4
      try clear hcz13_0
      try clear hcz13_1
      try clear hcz13_2
      try clear hcz13_3
      try clear hcz13_4
      try clear hcz16_0
      try clear hcz16_1
      try clear hcz16_2
      try clear hcz16_3
      try clear hcz16_4
      try clear hcz7_0
      try clear hcz7_1
      try clear hcz7_2
      try clear hcz7_3
      try clear hcz7_4
      try clear hcz9_0
      try clear hcz9_1
      try clear hcz9_2
      try clear hcz9_3
      try clear hcz9_4
      try clear hfz11_0
      try clear hfz11_1
      try clear hfz11_2
      try clear hfz11_3
      try clear hfz11_4
      try clear hfz13_0
      try clear hfz13_1
      try clear hfz13_2
      try clear hfz13_3
      try clear hfz13_4
      try clear hfz16_0
      try clear hfz16_1
      try clear hfz16_2
      try clear hfz16_3
      try clear hfz16_4
      try clear hfz7_0
      try clear hfz7_1
      try clear hfz7_2
      try clear hfz7_3
      try clear hfz7_4
      try clear hfz9_0
      try clear hfz9_1
      try clear hfz9_2
      try clear hfz9_3
      try clear hfz9_4
      obtain ⟨kq, x27_13, rfl, HA, HJ13, BK414, HB⟩ := hcut
      cases kq with
      | zero => exact absurd HA.out (by simp [tree_own.j0])
      | succ kj13 =>
        have H := HA.out
        clear HA
        simp only [tree_own.j0] at H
        by_cases c18 : x27_13 = true
        · subst c18
          have H1 : (if a0_2.toList = ([] : List UInt8) then (if (l0_3.length : Int) = 0 then (some ((l0_4.length : Int) == 0)) else (some false)) else (some false)) = some r := by rw [if_pos rfl] at H; exact H
          clear H
          have H := H1
          clear H1
          by_cases c19 : a0_2.toList = ([] : List UInt8)
          · rw [if_pos c19] at H
            have c19b0 : (a0_2.toList == ([] : List UInt8)) = true := beq_iff_eq.mpr c19
            have c19b1 : (a0_2.toList != ([] : List UInt8)) = false := bne_eq_false_iff_eq.mpr c19
            clear c19
            by_cases c20 : (l0_3.length : Int) = 0
            · rw [if_pos c20] at H
              have c20b0 : ((l0_3.length : Int) == 0) = true := beq_iff_eq.mpr c20
              have c20b1 : ((l0_3.length : Int) != 0) = false := bne_eq_false_iff_eq.mpr c20
              clear c20
              obtain rfl := Option.some.inj H
              have hcz21_0 : wc.cell? ⟨gb414, 0, none⟩ = some (.int .i64 a0_0) := (blk_cell BK414.out 0).trans rfl
              have hcz21_1 : wc.cell? ⟨gb414, 1, none⟩ = some (.int .i64 a0_1) := (blk_cell BK414.out 1).trans rfl
              have hcz21_2 : wc.cell? ⟨gb414, 2, none⟩ = some (.string a0_2) := (blk_cell BK414.out 2).trans rfl
              have hcz21_3 : wc.cell? ⟨gb414, 3, none⟩ = some (.slice A0_3 l0_3.length c0_3) := (blk_cell BK414.out 3).trans rfl
              have hcz21_4 : wc.cell? ⟨gb414, 4, none⟩ = some (.slice A0_4 l0_4.length c0_4) := (blk_cell BK414.out 4).trans rfl
              have hfz21_0 := blk_frozen BK414.out 0
              have hfz21_1 := blk_frozen BK414.out 1
              have hfz21_2 := blk_frozen BK414.out 2
              have hfz21_3 := blk_frozen BK414.out 3
              have hfz21_4 := blk_frozen BK414.out 4
              go_wp2
              go_ret
              exact ⟨by first | rfl | (simp [errW_none, errW_some] <;> rfl) | (simp [*, errW_none, errW_some] <;> rfl), by repeat (first | (with_reducible first | exact HB.out | apply below_alloc | apply pw_below_drewN | apply below_drew1 | refine below_set ?_ GE414.out) | exact HB.out)⟩
            · rw [if_neg c20] at H
              have c20b0 : ((l0_3.length : Int) == 0) = false := beq_eq_false_iff_ne.mpr c20
              have c20b1 : ((l0_3.length : Int) != 0) = true := bne_iff_ne.mpr c20
              have c20b2 : ¬ (l0_3 = []) := fun h_ => c20 (by rw [h_]; rfl)
              obtain rfl := Option.some.inj H
              have hcz22_0 : wc.cell? ⟨gb414, 0, none⟩ = some (.int .i64 a0_0) := (blk_cell BK414.out 0).trans rfl
              have hcz22_1 : wc.cell? ⟨gb414, 1, none⟩ = some (.int .i64 a0_1) := (blk_cell BK414.out 1).trans rfl
              have hcz22_2 : wc.cell? ⟨gb414, 2, none⟩ = some (.string a0_2) := (blk_cell BK414.out 2).trans rfl
              have hcz22_3 : wc.cell? ⟨gb414, 3, none⟩ = some (.slice A0_3 l0_3.length c0_3) := (blk_cell BK414.out 3).trans rfl
              have hcz22_4 : wc.cell? ⟨gb414, 4, none⟩ = some (.slice A0_4 l0_4.length c0_4) := (blk_cell BK414.out 4).trans rfl
              have hfz22_0 := blk_frozen BK414.out 0
              have hfz22_1 := blk_frozen BK414.out 1
              have hfz22_2 := blk_frozen BK414.out 2
              have hfz22_3 := blk_frozen BK414.out 3
              have hfz22_4 := blk_frozen BK414.out 4
              go_wp2
              go_ret
              exact ⟨by first | rfl | (simp [errW_none, errW_some] <;> rfl) | (simp [*, errW_none, errW_some] <;> rfl), by repeat (first | (with_reducible first | exact HB.out | apply below_alloc | apply pw_below_drewN | apply below_drew1 | refine below_set ?_ GE414.out) | exact HB.out)⟩
          · rw [if_neg c19] at H
            have c19b0 : (a0_2.toList == ([] : List UInt8)) = false := beq_eq_false_iff_ne.mpr c19
            have c19b1 : (a0_2.toList != ([] : List UInt8)) = true := bne_iff_ne.mpr c19
            obtain rfl := Option.some.inj H
            have hcz23_0 : wc.cell? ⟨gb414, 0, none⟩ = some (.int .i64 a0_0) := (blk_cell BK414.out 0).trans rfl
            have hcz23_1 : wc.cell? ⟨gb414, 1, none⟩ = some (.int .i64 a0_1) := (blk_cell BK414.out 1).trans rfl
            have hcz23_2 : wc.cell? ⟨gb414, 2, none⟩ = some (.string a0_2) := (blk_cell BK414.out 2).trans rfl
            have hcz23_3 : wc.cell? ⟨gb414, 3, none⟩ = some (.slice A0_3 l0_3.length c0_3) := (blk_cell BK414.out 3).trans rfl
            have hcz23_4 : wc.cell? ⟨gb414, 4, none⟩ = some (.slice A0_4 l0_4.length c0_4) := (blk_cell BK414.out 4).trans rfl
            have hfz23_0 := blk_frozen BK414.out 0
            have hfz23_1 := blk_frozen BK414.out 1
            have hfz23_2 := blk_frozen BK414.out 2
            have hfz23_3 := blk_frozen BK414.out 3
            have hfz23_4 := blk_frozen BK414.out 4
            go_wp2
            go_ret
            exact ⟨by first | rfl | (simp [errW_none, errW_some] <;> rfl) | (simp [*, errW_none, errW_some] <;> rfl), by repeat (first | (with_reducible first | exact HB.out | apply below_alloc | apply pw_below_drewN | apply below_drew1 | refine below_set ?_ GE414.out) | exact HB.out)⟩
        · replace c18 := Bool.eq_false_iff.mpr c18
          subst c18
          have H1 : (if a0_0 = 4 then (if a0_1 = 0 then (if (l0_3.length : Int) = 0 then (some ((l0_4.length : Int) == 0)) else (some false)) else (some false)) else (if a0_0 = 5 then (if a0_1 = 0 then (if a0_2.toList = ([] : List UInt8) then (some ((l0_3.length : Int) == 0)) else (some false)) else (some false)) else (if a0_0 = 6 then (if a0_1 = 0 then (some (a0_2.toList == ([] : List UInt8))) else (some false)) else (some false)))) = some r := by rw [if_neg (show ¬ (false = true) by decide)] at H; exact H
          clear H
          have H := H1
          clear H1
          by_cases c24 : a0_0 = 4
          · rw [if_pos c24] at H
            have c24b0 : (a0_0 == 4) = true := beq_iff_eq.mpr c24
            have c24b1 : (a0_0 != 4) = false := bne_eq_false_iff_eq.mpr c24
            clear c24
            by_cases c25 : a0_1 = 0
            · rw [if_pos c25] at H
              have c25b0 : (a0_1 == 0) = true := beq_iff_eq.mpr c25
              have c25b1 : (a0_1 != 0) = false := bne_eq_false_iff_eq.mpr c25
              clear c25
              by_cases c26 : (l0_3.length : Int) = 0
              · rw [if_pos c26] at H
                have c26b0 : ((l0_3.length : Int) == 0) = true := beq_iff_eq.mpr c26
                have c26b1 : ((l0_3.length : Int) != 0) = false := bne_eq_false_iff_eq.mpr c26
                clear c26
                obtain rfl := Option.some.inj H
                have hcz27_0 : wc.cell? ⟨gb414, 0, none⟩ = some (.int .i64 a0_0) := (blk_cell BK414.out 0).trans rfl
                have hcz27_1 : wc.cell? ⟨gb414, 1, none⟩ = some (.int .i64 a0_1) := (blk_cell BK414.out 1).trans rfl
                have hcz27_2 : wc.cell? ⟨gb414, 2, none⟩ = some (.string a0_2) := (blk_cell BK414.out 2).trans rfl
                have hcz27_3 : wc.cell? ⟨gb414, 3, none⟩ = some (.slice A0_3 l0_3.length c0_3) := (blk_cell BK414.out 3).trans rfl
                have hcz27_4 : wc.cell? ⟨gb414, 4, none⟩ = some (.slice A0_4 l0_4.length c0_4) := (blk_cell BK414.out 4).trans rfl
                have hfz27_0 := blk_frozen BK414.out 0
                have hfz27_1 := blk_frozen BK414.out 1
                have hfz27_2 := blk_frozen BK414.out 2
                have hfz27_3 := blk_frozen BK414.out 3
                have hfz27_4 := blk_frozen BK414.out 4
                go_wp2
                go_ret
                exact ⟨by first | rfl | (simp [errW_none, errW_some] <;> rfl) | (simp [*, errW_none, errW_some] <;> rfl), by repeat (first | (with_reducible first | exact HB.out | apply below_alloc | apply pw_below_drewN | apply below_drew1 | refine below_set ?_ GE414.out) | exact HB.out)⟩
              · rw [if_neg c26] at H
                have c26b0 : ((l0_3.length : Int) == 0) = false := beq_eq_false_iff_ne.mpr c26
                have c26b1 : ((l0_3.length : Int) != 0) = true := bne_iff_ne.mpr c26
                have c26b2 : ¬ (l0_3 = []) := fun h_ => c26 (by rw [h_]; rfl)
                obtain rfl := Option.some.inj H
                have hcz28_0 : wc.cell? ⟨gb414, 0, none⟩ = some (.int .i64 a0_0) := (blk_cell BK414.out 0).trans rfl
                have hcz28_1 : wc.cell? ⟨gb414, 1, none⟩ = some (.int .i64 a0_1) := (blk_cell BK414.out 1).trans rfl
                have hcz28_2 : wc.cell? ⟨gb414, 2, none⟩ = some (.string a0_2) := (blk_cell BK414.out 2).trans rfl
                have hcz28_3 : wc.cell? ⟨gb414, 3, none⟩ = some (.slice A0_3 l0_3.length c0_3) := (blk_cell BK414.out 3).trans rfl
                have hcz28_4 : wc.cell? ⟨gb414, 4, none⟩ = some (.slice A0_4 l0_4.length c0_4) := (blk_cell BK414.out 4).trans rfl
                have hfz28_0 := blk_frozen BK414.out 0
                have hfz28_1 := blk_frozen BK414.out 1
                have hfz28_2 := blk_frozen BK414.out 2
                have hfz28_3 := blk_frozen BK414.out 3
                have hfz28_4 := blk_frozen BK414.out 4
                go_wp2
                go_ret
                exact ⟨by first | rfl | (simp [errW_none, errW_some] <;> rfl) | (simp [*, errW_none, errW_some] <;> rfl), by repeat (first | (with_reducible first | exact HB.out | apply below_alloc | apply pw_below_drewN | apply below_drew1 | refine below_set ?_ GE414.out) | exact HB.out)⟩
            · rw [if_neg c25] at H
              have c25b0 : (a0_1 == 0) = false := beq_eq_false_iff_ne.mpr c25
              have c25b1 : (a0_1 != 0) = true := bne_iff_ne.mpr c25
              obtain rfl := Option.some.inj H
              have hcz29_0 : wc.cell? ⟨gb414, 0, none⟩ = some (.int .i64 a0_0) := (blk_cell BK414.out 0).trans rfl
              have hcz29_1 : wc.cell? ⟨gb414, 1, none⟩ = some (.int .i64 a0_1) := (blk_cell BK414.out 1).trans rfl
              have hcz29_2 : wc.cell? ⟨gb414, 2, none⟩ = some (.string a0_2) := (blk_cell BK414.out 2).trans rfl
              have hcz29_3 : wc.cell? ⟨gb414, 3, none⟩ = some (.slice A0_3 l0_3.length c0_3) := (blk_cell BK414.out 3).trans rfl
              have hcz29_4 : wc.cell? ⟨gb414, 4, none⟩ = some (.slice A0_4 l0_4.length c0_4) := (blk_cell BK414.out 4).trans rfl
              have hfz29_0 := blk_frozen BK414.out 0
              have hfz29_1 := blk_frozen BK414.out 1
              have hfz29_2 := blk_frozen BK414.out 2
              have hfz29_3 := blk_frozen BK414.out 3
              have hfz29_4 := blk_frozen BK414.out 4
              go_wp2
              go_ret
              exact ⟨by first | rfl | (simp [errW_none, errW_some] <;> rfl) | (simp [*, errW_none, errW_some] <;> rfl), by repeat (first | (with_reducible first | exact HB.out | apply below_alloc | apply pw_below_drewN | apply below_drew1 | refine below_set ?_ GE414.out) | exact HB.out)⟩
          · rw [if_neg c24] at H
            have c24b0 : (a0_0 == 4) = false := beq_eq_false_iff_ne.mpr c24
            have c24b1 : (a0_0 != 4) = true := bne_iff_ne.mpr c24
            by_cases c30 : a0_0 = 5
            · rw [if_pos c30] at H
              have c30b0 : (a0_0 == 5) = true := beq_iff_eq.mpr c30
              have c30b1 : (a0_0 != 5) = false := bne_eq_false_iff_eq.mpr c30
              clear c30
              by_cases c31 : a0_1 = 0
              · rw [if_pos c31] at H
                have c31b0 : (a0_1 == 0) = true := beq_iff_eq.mpr c31
                have c31b1 : (a0_1 != 0) = false := bne_eq_false_iff_eq.mpr c31
                clear c31
                by_cases c32 : a0_2.toList = ([] : List UInt8)
                · rw [if_pos c32] at H
                  have c32b0 : (a0_2.toList == ([] : List UInt8)) = true := beq_iff_eq.mpr c32
                  have c32b1 : (a0_2.toList != ([] : List UInt8)) = false := bne_eq_false_iff_eq.mpr c32
                  clear c32
                  obtain rfl := Option.some.inj H
                  have hcz33_0 : wc.cell? ⟨gb414, 0, none⟩ = some (.int .i64 a0_0) := (blk_cell BK414.out 0).trans rfl
                  have hcz33_1 : wc.cell? ⟨gb414, 1, none⟩ = some (.int .i64 a0_1) := (blk_cell BK414.out 1).trans rfl
                  have hcz33_2 : wc.cell? ⟨gb414, 2, none⟩ = some (.string a0_2) := (blk_cell BK414.out 2).trans rfl
                  have hcz33_3 : wc.cell? ⟨gb414, 3, none⟩ = some (.slice A0_3 l0_3.length c0_3) := (blk_cell BK414.out 3).trans rfl
                  have hcz33_4 : wc.cell? ⟨gb414, 4, none⟩ = some (.slice A0_4 l0_4.length c0_4) := (blk_cell BK414.out 4).trans rfl
                  have hfz33_0 := blk_frozen BK414.out 0
                  have hfz33_1 := blk_frozen BK414.out 1
                  have hfz33_2 := blk_frozen BK414.out 2
                  have hfz33_3 := blk_frozen BK414.out 3
                  have hfz33_4 := blk_frozen BK414.out 4
                  go_wp2
                  go_ret
                  exact ⟨by first | rfl | (simp [errW_none, errW_some] <;> rfl) | (simp [*, errW_none, errW_some] <;> rfl), by repeat (first | (with_reducible first | exact HB.out | apply below_alloc | apply pw_below_drewN | apply below_drew1 | refine below_set ?_ GE414.out) | exact HB.out)⟩
                · rw [if_neg c32] at H
                  have c32b0 : (a0_2.toList == ([] : List UInt8)) = false := beq_eq_false_iff_ne.mpr c32
                  have c32b1 : (a0_2.toList != ([] : List UInt8)) = true := bne_iff_ne.mpr c32
                  obtain rfl := Option.some.inj H
                  have hcz34_0 : wc.cell? ⟨gb414, 0, none⟩ = some (.int .i64 a0_0) := (blk_cell BK414.out 0).trans rfl
                  have hcz34_1 : wc.cell? ⟨gb414, 1, none⟩ = some (.int .i64 a0_1) := (blk_cell BK414.out 1).trans rfl
                  have hcz34_2 : wc.cell? ⟨gb414, 2, none⟩ = some (.string a0_2) := (blk_cell BK414.out 2).trans rfl
                  have hcz34_3 : wc.cell? ⟨gb414, 3, none⟩ = some (.slice A0_3 l0_3.length c0_3) := (blk_cell BK414.out 3).trans rfl
                  have hcz34_4 : wc.cell? ⟨gb414, 4, none⟩ = some (.slice A0_4 l0_4.length c0_4) := (blk_cell BK414.out 4).trans rfl
                  have hfz34_0 := blk_frozen BK414.out 0
                  have hfz34_1 := blk_frozen BK414.out 1
                  have hfz34_2 := blk_frozen BK414.out 2
                  have hfz34_3 := blk_frozen BK414.out 3
                  have hfz34_4 := blk_frozen BK414.out 4
                  go_wp2
                  go_ret
                  exact ⟨by first | rfl | (simp [errW_none, errW_some] <;> rfl) | (simp [*, errW_none, errW_some] <;> rfl), by repeat (first | (with_reducible first | exact HB.out | apply below_alloc | apply pw_below_drewN | apply below_drew1 | refine below_set ?_ GE414.out) | exact HB.out)⟩
              · rw [if_neg c31] at H
                have c31b0 : (a0_1 == 0) = false := beq_eq_false_iff_ne.mpr c31
                have c31b1 : (a0_1 != 0) = true := bne_iff_ne.mpr c31
                obtain rfl := Option.some.inj H
                have hcz35_0 : wc.cell? ⟨gb414, 0, none⟩ = some (.int .i64 a0_0) := (blk_cell BK414.out 0).trans rfl
                have hcz35_1 : wc.cell? ⟨gb414, 1, none⟩ = some (.int .i64 a0_1) := (blk_cell BK414.out 1).trans rfl
                have hcz35_2 : wc.cell? ⟨gb414, 2, none⟩ = some (.string a0_2) := (blk_cell BK414.out 2).trans rfl
                have hcz35_3 : wc.cell? ⟨gb414, 3, none⟩ = some (.slice A0_3 l0_3.length c0_3) := (blk_cell BK414.out 3).trans rfl
                have hcz35_4 : wc.cell? ⟨gb414, 4, none⟩ = some (.slice A0_4 l0_4.length c0_4) := (blk_cell BK414.out 4).trans rfl
                have hfz35_0 := blk_frozen BK414.out 0
                have hfz35_1 := blk_frozen BK414.out 1
                have hfz35_2 := blk_frozen BK414.out 2
                have hfz35_3 := blk_frozen BK414.out 3
                have hfz35_4 := blk_frozen BK414.out 4
                go_wp2
                go_ret
                exact ⟨by first | rfl | (simp [errW_none, errW_some] <;> rfl) | (simp [*, errW_none, errW_some] <;> rfl), by repeat (first | (with_reducible first | exact HB.out | apply below_alloc | apply pw_below_drewN | apply below_drew1 | refine below_set ?_ GE414.out) | exact HB.out)⟩
            · rw [if_neg c30] at H
              have c30b0 : (a0_0 == 5) = false := beq_eq_false_iff_ne.mpr c30
              have c30b1 : (a0_0 != 5) = true := bne_iff_ne.mpr c30
              by_cases c36 : a0_0 = 6
              · rw [if_pos c36] at H
                have c36b0 : (a0_0 == 6) = true := beq_iff_eq.mpr c36
                have c36b1 : (a0_0 != 6) = false := bne_eq_false_iff_eq.mpr c36
                clear c36
                by_cases c37 : a0_1 = 0
                · rw [if_pos c37] at H
                  have c37b0 : (a0_1 == 0) = true := beq_iff_eq.mpr c37
                  have c37b1 : (a0_1 != 0) = false := bne_eq_false_iff_eq.mpr c37
                  clear c37
                  obtain rfl := Option.some.inj H
                  have hcz38_0 : wc.cell? ⟨gb414, 0, none⟩ = some (.int .i64 a0_0) := (blk_cell BK414.out 0).trans rfl
                  have hcz38_1 : wc.cell? ⟨gb414, 1, none⟩ = some (.int .i64 a0_1) := (blk_cell BK414.out 1).trans rfl
                  have hcz38_2 : wc.cell? ⟨gb414, 2, none⟩ = some (.string a0_2) := (blk_cell BK414.out 2).trans rfl
                  have hcz38_3 : wc.cell? ⟨gb414, 3, none⟩ = some (.slice A0_3 l0_3.length c0_3) := (blk_cell BK414.out 3).trans rfl
                  have hcz38_4 : wc.cell? ⟨gb414, 4, none⟩ = some (.slice A0_4 l0_4.length c0_4) := (blk_cell BK414.out 4).trans rfl
                  have hfz38_0 := blk_frozen BK414.out 0
                  have hfz38_1 := blk_frozen BK414.out 1
                  have hfz38_2 := blk_frozen BK414.out 2
                  have hfz38_3 := blk_frozen BK414.out 3
                  have hfz38_4 := blk_frozen BK414.out 4
                  go_wp2
                  go_ret
                  exact ⟨by first | rfl | (simp [errW_none, errW_some] <;> rfl) | (simp [*, errW_none, errW_some] <;> rfl), by repeat (first | (with_reducible first | exact HB.out | apply below_alloc | apply pw_below_drewN | apply below_drew1 | refine below_set ?_ GE414.out) | exact HB.out)⟩
                · rw [if_neg c37] at H
                  have c37b0 : (a0_1 == 0) = false := beq_eq_false_iff_ne.mpr c37
                  have c37b1 : (a0_1 != 0) = true := bne_iff_ne.mpr c37
                  obtain rfl := Option.some.inj H
                  have hcz39_0 : wc.cell? ⟨gb414, 0, none⟩ = some (.int .i64 a0_0) := (blk_cell BK414.out 0).trans rfl
                  have hcz39_1 : wc.cell? ⟨gb414, 1, none⟩ = some (.int .i64 a0_1) := (blk_cell BK414.out 1).trans rfl
                  have hcz39_2 : wc.cell? ⟨gb414, 2, none⟩ = some (.string a0_2) := (blk_cell BK414.out 2).trans rfl
                  have hcz39_3 : wc.cell? ⟨gb414, 3, none⟩ = some (.slice A0_3 l0_3.length c0_3) := (blk_cell BK414.out 3).trans rfl
                  have hcz39_4 : wc.cell? ⟨gb414, 4, none⟩ = some (.slice A0_4 l0_4.length c0_4) := (blk_cell BK414.out 4).trans rfl
                  have hfz39_0 := blk_frozen BK414.out 0
                  have hfz39_1 := blk_frozen BK414.out 1
                  have hfz39_2 := blk_frozen BK414.out 2
                  have hfz39_3 := blk_frozen BK414.out 3
                  have hfz39_4 := blk_frozen BK414.out 4
                  go_wp2
                  go_ret
                  exact ⟨by first | rfl | (simp [errW_none, errW_some] <;> rfl) | (simp [*, errW_none, errW_some] <;> rfl), by repeat (first | (with_reducible first | exact HB.out | apply below_alloc | apply pw_below_drewN | apply below_drew1 | refine below_set ?_ GE414.out) | exact HB.out)⟩
              · rw [if_neg c36] at H
                have c36b0 : (a0_0 == 6) = false := beq_eq_false_iff_ne.mpr c36
                have c36b1 : (a0_0 != 6) = true := bne_iff_ne.mpr c36
                obtain rfl := Option.some.inj H
                go_wp2
                go_ret
                exact ⟨by first | rfl | (simp [errW_none, errW_some] <;> rfl) | (simp [*, errW_none, errW_some] <;> rfl), by repeat (first | (with_reducible first | exact HB.out | apply below_alloc | apply pw_below_drewN | apply below_drew1 | refine below_set ?_ GE414.out) | exact HB.out)⟩
end Go.Proofs.Ytjdldlphfifggaa.X
end
section
namespace Go.Proofs.Ytjdldlphfifggaa.X
open Go.RowKit Go.Proofs.YtjdldlphfifggaaW.PrintWords Go.Proofs.YtjdldlphfifggaaW.PrintLast Go.Proofs.YtjdldlphfifggaaW.PrintMore
attribute [local go_sem] max2_int min2_int max_two min_two max_three min_three max_four min_four
set_option linter.unusedVariables false
set_option linter.unusedSimpArgs false
def num_Fits.f (a0 : Int) : Option (Bool) := if a0 ≥ (-9007199254740991) then (some (decide (a0 ≤ 9007199254740991))) else (some false)
set_option maxHeartbeats 8000000 in
set_option maxRecDepth 100000 in
theorem num_Fits.calls (a0 : Int) (r : Bool) (w : World) (h : num_Fits.f a0 = some r) :
    Calls Try.prog 139 #[.int .i64 a0] w fun e w' => e = .returned (.bool r) ∧ Drawn0 w w' := by
  have H : (if a0 ≥ (-9007199254740991) then (some (decide (a0 ≤ 9007199254740991))) else (some false)) = some r := h
  clear h
  by_cases c2 : a0 ≥ (-9007199254740991)
  · rw [if_pos c2] at H
    have c2b0 : decide ((-9007199254740991) ≤ a0) = true := decide_eq_true c2
    clear c2
    obtain rfl := Option.some.inj H
    go_enter Try.func139, Try.ntmps139
    go_wp2
    go_ret
    exact ⟨by first | rfl | (simp; done) | (simp [*]; done), by repeat (first | exact Drawn0.refl _ | apply Drawn0.step)⟩
  · rw [if_neg c2] at H
    have c2b0 : decide ((-9007199254740991) ≤ a0) = false := decide_eq_false c2
    clear c2
    obtain rfl := Option.some.inj H
    go_enter Try.func139, Try.ntmps139
    go_wp2
    go_ret
    exact ⟨by first | rfl | (simp; done) | (simp [*]; done), by repeat (first | exact Drawn0.refl _ | apply Drawn0.step)⟩
end Go.Proofs.Ytjdldlphfifggaa.X
end
section
namespace Go.Proofs.Ytjdldlphfifggaa.X
open Go.RowKit Go.Proofs.YtjdldlphfifggaaW.PrintWords Go.Proofs.YtjdldlphfifggaaW.PrintLast Go.Proofs.YtjdldlphfifggaaW.PrintMore
attribute [local go_sem] Go.Instr.field Go.asAgg max2_int min2_int max_two min_two max_three min_three max_four min_four
set_option linter.unusedVariables false
set_option linter.unusedSimpArgs false
mutual
def tree_plain.j0 : Nat → Bool → Int → Int → ByteArray → List ByteArray → List (S25) → Option (Int)
  | 0, _, _, _, _, _, _ => none
  | k + 1, x7, x416000, x416001, x416002, x416003, x416004 => if x7 = true then (tree_plain.j1 k x7 x416000 x416001 x416002 x416003 x416004) else (if x416000 = 3 then ((num_Fits.f x416001).bind fun t417 => (tree_plain.j1 k (!t417) x416000 x416001 x416002 x416003 x416004)) else (tree_plain.j1 k false x416000 x416001 x416002 x416003 x416004))
def tree_plain.j1 : Nat → Bool → Int → Int → ByteArray → List ByteArray → List (S25) → Option (Int)
  | 0, _, _, _, _, _, _ => none
  | k + 1, x7, x416000, x416001, x416002, x416003, x416004 => if x7 = true then (some 2) else (if x416000 = 4 then ((utf_Valid.f k x416002).bind fun t418 => (tree_plain.j2 k (!t418) x416000 x416001 x416002 x416003 x416004)) else (tree_plain.j2 k false x416000 x416001 x416002 x416003 x416004))
def tree_plain.j2 : Nat → Bool → Int → Int → ByteArray → List ByteArray → List (S25) → Option (Int)
  | 0, _, _, _, _, _, _ => none
  | k + 1, x30, x416000, x416001, x416002, x416003, x416004 => if x30 = true then (some 10) else (if x416000 = 6 then (if (x416003.length : Int) = (x416004.length : Int) then (some 0) else (some 1)) else (some 0))
end
def tree_plain.f (k : Nat) (a0_0 : Int) (a0_1 : Int) (a0_2 : ByteArray) (l0_3 : List ByteArray) (l0_4 : List (S25)) : Option (Int) := (tree_own.f k a0_0 a0_1 a0_2 l0_3 l0_4).bind fun t416 => (if t416 = true then (if a0_0 = 2 then (if a0_1 = 0 then (tree_plain.j0 k false a0_0 a0_1 a0_2 l0_3 l0_4) else (tree_plain.j0 k (a0_1 != 1) a0_0 a0_1 a0_2 l0_3 l0_4)) else (tree_plain.j0 k false a0_0 a0_1 a0_2 l0_3 l0_4)) else (some 7))
theorem tree_plain.mono_l : ∀ k, (∀ y0 y1 y2 y3 y4 y5, LeO (tree_plain.j0 k y0 y1 y2 y3 y4 y5) (tree_plain.j0 (k + 1) y0 y1 y2 y3 y4 y5)) ∧ (∀ y0 y1 y2 y3 y4 y5, LeO (tree_plain.j1 k y0 y1 y2 y3 y4 y5) (tree_plain.j1 (k + 1) y0 y1 y2 y3 y4 y5)) ∧ (∀ y0 y1 y2 y3 y4 y5, LeO (tree_plain.j2 k y0 y1 y2 y3 y4 y5) (tree_plain.j2 (k + 1) y0 y1 y2 y3 y4 y5))
  | 0 => ⟨fun _ _ _ _ _ _ r h => by simp [tree_plain.j0] at h, fun _ _ _ _ _ _ r h => by simp [tree_plain.j1] at h, fun _ _ _ _ _ _ r h => by simp [tree_plain.j2] at h⟩
  | k + 1 => by
    obtain ⟨ih0, ih1, ih2⟩ := tree_plain.mono_l k
    refine ⟨?_, ?_, ?_⟩
    · intro y0 y1 y2 y3 y4 y5
      unfold tree_plain.j0
      repeat' first
      | (with_reducible exact ih0 _ _ _ _ _ _)
      | (with_reducible exact ih1 _ _ _ _ _ _)
      | (with_reducible exact ih2 _ _ _ _ _ _)
      | (with_reducible exact tree_own.mono _ _ _ _ _ _)
      | (with_reducible exact utf_Valid.mono _ _)
      | (with_reducible exact LeO.refl _)
      | (with_reducible exact LeO.none _)
      | (with_reducible refine LeO.ite ?_ ?_)
      | (with_reducible refine LeO.bind ?_ (fun _ => ?_))
      | exact ih0 _ _ _ _ _ _
      | exact ih1 _ _ _ _ _ _
      | exact ih2 _ _ _ _ _ _
      | exact tree_own.mono _ _ _ _ _ _
      | exact utf_Valid.mono _ _
      | exact LeO.none _
      | refine LeO.ite ?_ ?_
      | refine LeO.bind ?_ (fun _ => ?_)
    · intro y0 y1 y2 y3 y4 y5
      unfold tree_plain.j1
      repeat' first
      | (with_reducible exact ih0 _ _ _ _ _ _)
      | (with_reducible exact ih1 _ _ _ _ _ _)
      | (with_reducible exact ih2 _ _ _ _ _ _)
      | (with_reducible exact tree_own.mono _ _ _ _ _ _)
      | (with_reducible exact utf_Valid.mono _ _)
      | (with_reducible exact LeO.refl _)
      | (with_reducible exact LeO.none _)
      | (with_reducible refine LeO.ite ?_ ?_)
      | (with_reducible refine LeO.bind ?_ (fun _ => ?_))
      | exact ih0 _ _ _ _ _ _
      | exact ih1 _ _ _ _ _ _
      | exact ih2 _ _ _ _ _ _
      | exact tree_own.mono _ _ _ _ _ _
      | exact utf_Valid.mono _ _
      | exact LeO.none _
      | refine LeO.ite ?_ ?_
      | refine LeO.bind ?_ (fun _ => ?_)
    · intro y0 y1 y2 y3 y4 y5
      unfold tree_plain.j2
      repeat' first
      | (with_reducible exact ih0 _ _ _ _ _ _)
      | (with_reducible exact ih1 _ _ _ _ _ _)
      | (with_reducible exact ih2 _ _ _ _ _ _)
      | (with_reducible exact tree_own.mono _ _ _ _ _ _)
      | (with_reducible exact utf_Valid.mono _ _)
      | (with_reducible exact LeO.refl _)
      | (with_reducible exact LeO.none _)
      | (with_reducible refine LeO.ite ?_ ?_)
      | (with_reducible refine LeO.bind ?_ (fun _ => ?_))
      | exact ih0 _ _ _ _ _ _
      | exact ih1 _ _ _ _ _ _
      | exact ih2 _ _ _ _ _ _
      | exact tree_own.mono _ _ _ _ _ _
      | exact utf_Valid.mono _ _
      | exact LeO.none _
      | refine LeO.ite ?_ ?_
      | refine LeO.bind ?_ (fun _ => ?_)
theorem tree_plain.mono : ∀ a0 a1 a2 a3 a4 k, LeO (tree_plain.f k a0 a1 a2 a3 a4) (tree_plain.f (k + 1) a0 a1 a2 a3 a4) := by
  intro a0 a1 a2 a3 a4 k
  obtain ⟨ih0, ih1, ih2⟩ := tree_plain.mono_l k
  unfold tree_plain.f
  repeat' first
      | (with_reducible exact ih0 _ _ _ _ _ _)
      | (with_reducible exact ih1 _ _ _ _ _ _)
      | (with_reducible exact ih2 _ _ _ _ _ _)
      | (with_reducible exact tree_own.mono _ _ _ _ _ _)
      | (with_reducible exact utf_Valid.mono _ _)
      | (with_reducible exact LeO.refl _)
      | (with_reducible exact LeO.none _)
      | (with_reducible refine LeO.ite ?_ ?_)
      | (with_reducible refine LeO.bind ?_ (fun _ => ?_))
      | exact ih0 _ _ _ _ _ _
      | exact ih1 _ _ _ _ _ _
      | exact ih2 _ _ _ _ _ _
      | exact tree_own.mono _ _ _ _ _ _
      | exact utf_Valid.mono _ _
      | exact LeO.none _
      | refine LeO.ite ?_ ?_
      | refine LeO.bind ?_ (fun _ => ?_)
set_option maxHeartbeats 8000000 in
set_option maxRecDepth 100000 in
theorem tree_plain.calls (k : Nat) (a0_0 : Int) (a0_1 : Int) (a0_2 : ByteArray) (A0_3 : Option Addr) (c0_3 : Nat) (l0_3 : List ByteArray) (A0_4 : Option Addr) (c0_4 : Nat) (l0_4 : List (S25)) (r : Int) (w : World) (hr0_3 : Kd.C Kd.string w A0_3 l0_3.length l0_3) (hc0_3 : l0_3.length ≤ c0_3) (hr0_4 : Kd.C k25 w A0_4 l0_4.length l0_4) (hc0_4 : l0_4.length ≤ c0_4) (h : tree_plain.f k a0_0 a0_1 a0_2 l0_3 l0_4 = some r) :
    Calls Try.prog 113 #[.agg #[.int .i64 a0_0, .int .i64 a0_1, .string a0_2, .slice A0_3 l0_3.length c0_3, .slice A0_4 l0_4.length c0_4]] w fun e w' => e = .returned (.int .i64 r) ∧ Below w.heap.size w w' := by
  have hu25 := Try.underlying25
  have HR0_3 := Aside0.mk hr0_3
  have HC0_3 := Aside0.mk hc0_3
  clear hr0_3 hc0_3
  have HR0_4 := Aside0.mk hr0_4
  have HC0_4 := Aside0.mk hc0_4
  clear hr0_4 hc0_4
  have HB := Aside0.mk (Below.refl w.heap.size w)
  have H : ((tree_own.f k a0_0 a0_1 a0_2 l0_3 l0_4).bind fun t416 => (if t416 = true then (if a0_0 = 2 then (if a0_1 = 0 then (tree_plain.j0 k false a0_0 a0_1 a0_2 l0_3 l0_4) else (tree_plain.j0 k (a0_1 != 1) a0_0 a0_1 a0_2 l0_3 l0_4)) else (tree_plain.j0 k false a0_0 a0_1 a0_2 l0_3 l0_4)) else (some 7))) = some r := h
  clear h
  replace H := Option.bind_eq_some_iff.mp H
  obtain ⟨t416, A20, H⟩ := H
  replace H : (if t416 = true then (if a0_0 = 2 then (if a0_1 = 0 then (tree_plain.j0 k false a0_0 a0_1 a0_2 l0_3 l0_4) else (tree_plain.j0 k (a0_1 != 1) a0_0 a0_1 a0_2 l0_3 l0_4)) else (tree_plain.j0 k false a0_0 a0_1 a0_2 l0_3 l0_4)) else (some 7)) = some r := H
  have A2 := Aside0.mk A20
  clear A20
  by_cases c3 : t416 = true
  · subst c3
    have H1 : (if a0_0 = 2 then (if a0_1 = 0 then (tree_plain.j0 k false a0_0 a0_1 a0_2 l0_3 l0_4) else (tree_plain.j0 k (a0_1 != 1) a0_0 a0_1 a0_2 l0_3 l0_4)) else (tree_plain.j0 k false a0_0 a0_1 a0_2 l0_3 l0_4)) = some r := by rw [if_pos rfl] at H; exact H
    clear H
    have H := H1
    clear H1
    have HC4 := Aside0.mk H
    clear H
    have hu120 := Try.underlying120
    go_enter Try.func113, Try.ntmps113
    go_upto_region 3 with (first | ((with_reducible refine gate_dst (N := 1) rfl ?_); (try (refine gate_guard (by rfl) ?_; dsimp only)); refine box_event ?hg (N := 1) ?hd (cs := #[.int .i64 a0_0, .int .i64 a0_1, .string a0_2, .slice A0_3 l0_3.length c0_3, .slice A0_4 l0_4.length c0_4]) (t := 25) ?hr ?_; (case hd => rfl); (case hg => rfl); (case hr => first | (go_simp; done) | (go_simp; rfl)); intro gb415 hg w5 hbox hb; have n0_ := Aside0.mk (below_step (by repeat (first | (with_reducible first | exact HB.out | apply below_alloc | apply pw_below_drewN | apply below_drew1) | exact HB.out)) hb); have n1_ := Aside0.mk (hbox); have n2_ := Aside0.mk ((by rw [hg]; exact (below_size (by repeat (first | (with_reducible first | exact HB.out | apply below_alloc | apply pw_below_drewN | apply below_drew1) | exact HB.out))) : w.heap.size ≤ gb415)); have n3_ := Aside0.mk ((by rw [hg]; exact (below_size (by repeat (first | (with_reducible first | exact HB.out | apply below_alloc | apply pw_below_drewN | apply below_drew1) | exact HB.out))) : w.heap.size ≤ gb415)); clear HB; have HB := n0_; have BK415 := n1_; have GW415 := n2_; have GE415 := n3_; clear n0_ n1_ n2_ n3_; clear hb hbox hg; have hcz6_0 : w5.cell? ⟨gb415, 0, none⟩ = some (.int .i64 a0_0) := (blk_cell BK415.out 0).trans rfl; have hcz6_1 : w5.cell? ⟨gb415, 1, none⟩ = some (.int .i64 a0_1) := (blk_cell BK415.out 1).trans rfl; have hcz6_2 : w5.cell? ⟨gb415, 2, none⟩ = some (.string a0_2) := (blk_cell BK415.out 2).trans rfl; have hcz6_3 : w5.cell? ⟨gb415, 3, none⟩ = some (.slice A0_3 l0_3.length c0_3) := (blk_cell BK415.out 3).trans rfl; have hcz6_4 : w5.cell? ⟨gb415, 4, none⟩ = some (.slice A0_4 l0_4.length c0_4) := (blk_cell BK415.out 4).trans rfl; have hfz6_0 := blk_frozen BK415.out 0; have hfz6_1 := blk_frozen BK415.out 1; have hfz6_2 := blk_frozen BK415.out 2; have hfz6_3 := blk_frozen BK415.out 3; have hfz6_4 := blk_frozen BK415.out 4) | ((with_reducible refine gate_callee (f := 138) rfl ?_); refine goesL_ (some 5) rfl rfl Try.func138 (by kernel_rfl) rfl #[.agg #[.int .i64 a0_0, .int .i64 a0_1, .string a0_2, .slice A0_3 l0_3.length c0_3, .slice A0_4 l0_4.length c0_4]] rfl (by (try simp only [List.map_toArray, List.map_cons, List.map_nil]); first | done | rfl | (simp only [List.length_drop, List.length_take]; rfl)) ?_; (with_reducible refine (tree_own.calls k a0_0 a0_1 a0_2 _ _ l0_3 _ _ l0_4 true _ ?side1 ?side2 ?side3 ?side4 A2.out).mono ?_); (case side1 => repeat (first | exact (Kd.C_below HR0_3.out HB.out) | (with_reducible refine Kd.C_alloc ?_ _) | (with_reducible refine Kd.C_drewN ?_ _) | (with_reducible refine Kd.C_drew ?_))); (case side2 => exact HC0_3.out); (case side3 => repeat (first | exact (Kd.C_below HR0_4.out HB.out) | (with_reducible refine Kd.C_alloc ?_ _) | (with_reducible refine Kd.C_drewN ?_ _) | (with_reducible refine Kd.C_drew ?_))); (case side4 => exact HC0_4.out); rintro e w7 ⟨rfl, hb⟩; refine ⟨_, rfl, ?_⟩; have n0_ := Aside0.mk (blk_below (g := gb415) (o := .cells #[.int .i64 a0_0, .int .i64 a0_1, .string a0_2, .slice A0_3 l0_3.length c0_3, .slice A0_4 l0_4.length c0_4] 25 (0, 0)) (by (with_reducible repeat (first | refine blk_drewN ?_ _ | refine blk_drew ?_ | refine blk_alloc ?_ _)); exact BK415.out) hb); have n1_ := Aside0.mk (below_step (by repeat (first | (with_reducible first | exact HB.out | apply below_alloc | apply pw_below_drewN | apply below_drew1 | refine below_set ?_ GE415.out) | exact HB.out)) hb); clear BK415; clear HB; have BK415 := n0_; have HB := n1_; clear n0_ n1_; (try clear hb); (try clear hb2); (try clear hk); (try clear hi)))
    (try simp only [Act.put, List.setIfInBounds_toArray, List.set_cons_zero, List.set_cons_succ])
    go_cut [7] (fun v7 wc => ∃ (kq : Nat) (x7_3 : Bool), v7 = .bool x7_3 ∧ Aside0 (tree_plain.j0 kq x7_3 a0_0 a0_1 a0_2 l0_3 l0_4 = some r) ∧ Aside0 (kq ≤ k) ∧ Aside0 (wc.heap[gb415]? = some (.cells #[.int .i64 a0_0, .int .i64 a0_1, .string a0_2, (.slice A0_3 l0_3.length c0_3), (.slice A0_4 l0_4.length c0_4)] 25 (0, 0))) ∧ Aside0 (Below w.heap.size w wc))
    case first =>
      have H := HC4.out
      clear HC4
      by_cases c8 : a0_0 = 2
      · rw [if_pos c8] at H
        have c8b0 : (a0_0 == 2) = true := beq_iff_eq.mpr c8
        have c8b1 : (a0_0 != 2) = false := bne_eq_false_iff_eq.mpr c8
        clear c8
        (first | rw [c8b0] | (simp only [i64_w, i32_w]; rw [c8b0]) | skip)
        by_cases c9 : a0_1 = 0
        · rw [if_pos c9] at H
          have c9b0 : (a0_1 == 0) = true := beq_iff_eq.mpr c9
          have c9b1 : (a0_1 != 0) = false := bne_eq_false_iff_eq.mpr c9
          clear c9
          have H' := Aside0.mk H
          clear H
          have hcz10_0 : w7.cell? ⟨gb415, 0, none⟩ = some (.int .i64 a0_0) := (blk_cell BK415.out 0).trans rfl
          have hcz10_1 : w7.cell? ⟨gb415, 1, none⟩ = some (.int .i64 a0_1) := (blk_cell BK415.out 1).trans rfl
          have hcz10_2 : w7.cell? ⟨gb415, 2, none⟩ = some (.string a0_2) := (blk_cell BK415.out 2).trans rfl
          have hcz10_3 : w7.cell? ⟨gb415, 3, none⟩ = some (.slice A0_3 l0_3.length c0_3) := (blk_cell BK415.out 3).trans rfl
          have hcz10_4 : w7.cell? ⟨gb415, 4, none⟩ = some (.slice A0_4 l0_4.length c0_4) := (blk_cell BK415.out 4).trans rfl
          have hfz10_0 := blk_frozen BK415.out 0
          have hfz10_1 := blk_frozen BK415.out 1
          have hfz10_2 := blk_frozen BK415.out 2
          have hfz10_3 := blk_frozen BK415.out 3
          have hfz10_4 := blk_frozen BK415.out 4
          go_wp2
          go_meet
          case rel => exact ⟨_, (false), (by first | rfl | (simp; done) | (simp [*]; done)), (by first | with_reducible exact H' | exact H' | (subst_vars; exact H')), ⟨by first | omega | exact Nat.le_refl _⟩, ⟨by (with_reducible repeat (first | refine blk_drewN ?_ _ | refine blk_drew ?_ | refine blk_alloc ?_ _)); exact BK415.out⟩, ⟨by repeat (first | (with_reducible first | exact HB.out | apply below_alloc | apply pw_below_drewN | apply below_drew1 | refine below_set ?_ GE415.out) | exact HB.out)⟩⟩
        · rw [if_neg c9] at H
          have c9b0 : (a0_1 == 0) = false := beq_eq_false_iff_ne.mpr c9
          have c9b1 : (a0_1 != 0) = true := bne_iff_ne.mpr c9
          have H' := Aside0.mk H
          clear H
          have hcz11_0 : w7.cell? ⟨gb415, 0, none⟩ = some (.int .i64 a0_0) := (blk_cell BK415.out 0).trans rfl
          have hcz11_1 : w7.cell? ⟨gb415, 1, none⟩ = some (.int .i64 a0_1) := (blk_cell BK415.out 1).trans rfl
          have hcz11_2 : w7.cell? ⟨gb415, 2, none⟩ = some (.string a0_2) := (blk_cell BK415.out 2).trans rfl
          have hcz11_3 : w7.cell? ⟨gb415, 3, none⟩ = some (.slice A0_3 l0_3.length c0_3) := (blk_cell BK415.out 3).trans rfl
          have hcz11_4 : w7.cell? ⟨gb415, 4, none⟩ = some (.slice A0_4 l0_4.length c0_4) := (blk_cell BK415.out 4).trans rfl
          have hfz11_0 := blk_frozen BK415.out 0
          have hfz11_1 := blk_frozen BK415.out 1
          have hfz11_2 := blk_frozen BK415.out 2
          have hfz11_3 := blk_frozen BK415.out 3
          have hfz11_4 := blk_frozen BK415.out 4
          go_wp2
          go_meet
          case rel => exact ⟨_, ((a0_1 != 1)), (by first | rfl | (simp; done) | (simp [*]; done)), (by first | with_reducible exact H' | exact H' | (subst_vars; exact H')), ⟨by first | omega | exact Nat.le_refl _⟩, ⟨by (with_reducible repeat (first | refine blk_drewN ?_ _ | refine blk_drew ?_ | refine blk_alloc ?_ _)); exact BK415.out⟩, ⟨by repeat (first | (with_reducible first | exact HB.out | apply below_alloc | apply pw_below_drewN | apply below_drew1 | refine below_set ?_ GE415.out) | exact HB.out)⟩⟩
      · rw [if_neg c8] at H
        have c8b0 : (a0_0 == 2) = false := beq_eq_false_iff_ne.mpr c8
        have c8b1 : (a0_0 != 2) = true := bne_iff_ne.mpr c8
        (first | rw [c8b0] | (simp only [i64_w, i32_w]; rw [c8b0]) | skip)
        have H' := Aside0.mk H
        clear H
        have hcz12_0 : w7.cell? ⟨gb415, 0, none⟩ = some (.int .i64 a0_0) := (blk_cell BK415.out 0).trans rfl
        have hcz12_1 : w7.cell? ⟨gb415, 1, none⟩ = some (.int .i64 a0_1) := (blk_cell BK415.out 1).trans rfl
        have hcz12_2 : w7.cell? ⟨gb415, 2, none⟩ = some (.string a0_2) := (blk_cell BK415.out 2).trans rfl
        have hcz12_3 : w7.cell? ⟨gb415, 3, none⟩ = some (.slice A0_3 l0_3.length c0_3) := (blk_cell BK415.out 3).trans rfl
        have hcz12_4 : w7.cell? ⟨gb415, 4, none⟩ = some (.slice A0_4 l0_4.length c0_4) := (blk_cell BK415.out 4).trans rfl
        have hfz12_0 := blk_frozen BK415.out 0
        have hfz12_1 := blk_frozen BK415.out 1
        have hfz12_2 := blk_frozen BK415.out 2
        have hfz12_3 := blk_frozen BK415.out 3
        have hfz12_4 := blk_frozen BK415.out 4
        go_wp2
        go_meet
        case rel => exact ⟨_, (false), (by first | rfl | (simp; done) | (simp [*]; done)), (by first | with_reducible exact H' | exact H' | (subst_vars; exact H')), ⟨by first | omega | exact Nat.le_refl _⟩, ⟨by (with_reducible repeat (first | refine blk_drewN ?_ _ | refine blk_drew ?_ | refine blk_alloc ?_ _)); exact BK415.out⟩, ⟨by repeat (first | (with_reducible first | exact HB.out | apply below_alloc | apply pw_below_drewN | apply below_drew1 | refine below_set ?_ GE415.out) | exact HB.out)⟩⟩
    case rest =>
      clear HC4
      try clear c1
      try clear p2
      try clear c3
      try clear c8
      try clear c8b0
      try clear c8b1
      try clear c9
      try clear c9b0
      try clear c9b1
      try clear c11
      try clear hcz10_0
      try clear hcz10_1
      try clear hcz10_2
      try clear hcz10_3
      try clear hcz10_4
      try clear hcz11_0
      try clear hcz11_1
      try clear hcz11_2
      try clear hcz11_3
      try clear hcz11_4
      try clear hcz12_0
      try clear hcz12_1
      try clear hcz12_2
      try clear hcz12_3
      try clear hcz12_4
      try clear hcz6_0
      try clear hcz6_1
      try clear hcz6_2
      try clear hcz6_3
      try clear hcz6_4
      try clear hfz10_0
      try clear hfz10_1
      try clear hfz10_2
      try clear hfz10_3
      try clear hfz10_4
      try clear hfz11_0
      try clear hfz11_1
      try clear hfz11_2
      try clear hfz11_3
      try clear hfz11_4
      try clear hfz12_0
      try clear hfz12_1
      try clear hfz12_2
      try clear hfz12_3
      try clear hfz12_4
      try clear hfz6_0
      try clear hfz6_1
      try clear hfz6_2
      try clear hfz6_3
      try clear hfz6_4
      obtain ⟨kq, x7_3, rfl, HA, HJ3, BK415, HB⟩ := hcut
      cases kq with
      | zero => exact absurd HA.out (by simp [tree_plain.j0])
      | succ kj3 =>
        have H := HA.out
        clear HA
        simp only [tree_plain.j0] at H
        have HC13 := Aside0.mk H
        clear H
        go_upto_if 7 with (fail)
        go_cut [7] (fun v7 wc => ∃ (kq : Nat) (x7_12 : Bool), v7 = .bool x7_12 ∧ Aside0 (tree_plain.j1 kq x7_12 a0_0 a0_1 a0_2 l0_3 l0_4 = some r) ∧ Aside0 (kq ≤ kj3) ∧ Aside0 (wc.heap[gb415]? = some (.cells #[.int .i64 a0_0, .int .i64 a0_1, .string a0_2, (.slice A0_3 l0_3.length c0_3), (.slice A0_4 l0_4.length c0_4)] 25 (0, 0))) ∧ Aside0 (Below w.heap.size w wc))
        case first =>
          have H := HC13.out
          clear HC13
          by_cases c14 : x7_3 = true
          · subst c14
            have H1 : (tree_plain.j1 kj3 true a0_0 a0_1 a0_2 l0_3 l0_4) = some r := by rw [if_pos rfl] at H; exact H
            clear H
            have H := H1
            clear H1
            have H' := Aside0.mk H
            clear H
            go_wp2
            go_meet
            case rel => exact ⟨_, (true), (by first | rfl | (simp; done) | (simp [*]; done)), (by first | with_reducible exact H' | exact H' | (subst_vars; exact H')), ⟨by have := HJ3.out; first | omega | exact Nat.le_refl _⟩, ⟨by (with_reducible repeat (first | refine blk_drewN ?_ _ | refine blk_drew ?_ | refine blk_alloc ?_ _)); exact BK415.out⟩, ⟨by repeat (first | (with_reducible first | exact HB.out | apply below_alloc | apply pw_below_drewN | apply below_drew1 | refine below_set ?_ GE415.out) | exact HB.out)⟩⟩
          · replace c14 := Bool.eq_false_iff.mpr c14
            subst c14
            have H1 : (if a0_0 = 3 then ((num_Fits.f a0_1).bind fun t417 => (tree_plain.j1 kj3 (!t417) a0_0 a0_1 a0_2 l0_3 l0_4)) else (tree_plain.j1 kj3 false a0_0 a0_1 a0_2 l0_3 l0_4)) = some r := by rw [if_neg (show ¬ (false = true) by decide)] at H; exact H
            clear H
            have H := H1
            clear H1
            by_cases c15 : a0_0 = 3
            · rw [if_pos c15] at H
              have c15b0 : (a0_0 == 3) = true := beq_iff_eq.mpr c15
              have c15b1 : (a0_0 != 3) = false := bne_eq_false_iff_eq.mpr c15
              clear c15
              (first | rw [c15b0] | (simp only [i64_w, i32_w]; rw [c15b0]) | skip)
              replace H := Option.bind_eq_some_iff.mp H
              obtain ⟨t417, A160, H⟩ := H
              replace H : (tree_plain.j1 kj3 (!t417) a0_0 a0_1 a0_2 l0_3 l0_4) = some r := H
              have A16 := Aside0.mk A160
              clear A160
              have H' := Aside0.mk H
              clear H
              have hcz17_0 : wc.cell? ⟨gb415, 0, none⟩ = some (.int .i64 a0_0) := (blk_cell BK415.out 0).trans rfl
              have hcz17_1 : wc.cell? ⟨gb415, 1, none⟩ = some (.int .i64 a0_1) := (blk_cell BK415.out 1).trans rfl
              have hcz17_2 : wc.cell? ⟨gb415, 2, none⟩ = some (.string a0_2) := (blk_cell BK415.out 2).trans rfl
              have hcz17_3 : wc.cell? ⟨gb415, 3, none⟩ = some (.slice A0_3 l0_3.length c0_3) := (blk_cell BK415.out 3).trans rfl
              have hcz17_4 : wc.cell? ⟨gb415, 4, none⟩ = some (.slice A0_4 l0_4.length c0_4) := (blk_cell BK415.out 4).trans rfl
              have hfz17_0 := blk_frozen BK415.out 0
              have hfz17_1 := blk_frozen BK415.out 1
              have hfz17_2 := blk_frozen BK415.out 2
              have hfz17_3 := blk_frozen BK415.out 3
              have hfz17_4 := blk_frozen BK415.out 4
              go_wp2_with (first | (go_at_call 139; (with_reducible refine (num_Fits.calls a0_1 t417 _ A16.out).mono ?_); rintro e w' ⟨rfl, ⟨nd, rfl⟩⟩))
              go_meet
              case rel => exact ⟨_, (!t417), (by first | rfl | (simp; done) | (simp [*]; done)), (by first | with_reducible exact H' | exact H' | (subst_vars; exact H')), ⟨by have := HJ3.out; first | omega | exact Nat.le_refl _⟩, ⟨by (with_reducible repeat (first | refine blk_drewN ?_ _ | refine blk_drew ?_ | refine blk_alloc ?_ _)); exact BK415.out⟩, ⟨by repeat (first | (with_reducible first | exact HB.out | apply below_alloc | apply pw_below_drewN | apply below_drew1 | refine below_set ?_ GE415.out) | exact HB.out)⟩⟩
            · rw [if_neg c15] at H
              have c15b0 : (a0_0 == 3) = false := beq_eq_false_iff_ne.mpr c15
              have c15b1 : (a0_0 != 3) = true := bne_iff_ne.mpr c15
              (first | rw [c15b0] | (simp only [i64_w, i32_w]; rw [c15b0]) | skip)
              have H' := Aside0.mk H
              clear H
              have hcz18_0 : wc.cell? ⟨gb415, 0, none⟩ = some (.int .i64 a0_0) := (blk_cell BK415.out 0).trans rfl
              have hcz18_1 : wc.cell? ⟨gb415, 1, none⟩ = some (.int .i64 a0_1) := (blk_cell BK415.out 1).trans rfl
              have hcz18_2 : wc.cell? ⟨gb415, 2, none⟩ = some (.string a0_2) := (blk_cell BK415.out 2).trans rfl
              have hcz18_3 : wc.cell? ⟨gb415, 3, none⟩ = some (.slice A0_3 l0_3.length c0_3) := (blk_cell BK415.out 3).trans rfl
              have hcz18_4 : wc.cell? ⟨gb415, 4, none⟩ = some (.slice A0_4 l0_4.length c0_4) := (blk_cell BK415.out 4).trans rfl
              have hfz18_0 := blk_frozen BK415.out 0
              have hfz18_1 := blk_frozen BK415.out 1
              have hfz18_2 := blk_frozen BK415.out 2
              have hfz18_3 := blk_frozen BK415.out 3
              have hfz18_4 := blk_frozen BK415.out 4
              go_wp2
              go_meet
              case rel => exact ⟨_, (false), (by first | rfl | (simp; done) | (simp [*]; done)), (by first | with_reducible exact H' | exact H' | (subst_vars; exact H')), ⟨by have := HJ3.out; first | omega | exact Nat.le_refl _⟩, ⟨by (with_reducible repeat (first | refine blk_drewN ?_ _ | refine blk_drew ?_ | refine blk_alloc ?_ _)); exact BK415.out⟩, ⟨by repeat (first | (with_reducible first | exact HB.out | apply below_alloc | apply pw_below_drewN | apply below_drew1 | refine below_set ?_ GE415.out) | exact HB.out)⟩⟩
        case rest =>
          clear HC13
          try clear c1
          try clear p2
          try clear c3
          try clear c8
          try clear c8b0
          try clear c8b1
          try clear c9
          try clear c9b0
          try clear c9b1
          try clear c11
          try clear c13
          try clear c14
          try clear c15
          try clear c15b0
          try clear c15b1
          try clear hcz10_0
          try clear hcz10_1
          try clear hcz10_2
          try clear hcz10_3
          try clear hcz10_4
          try clear hcz11_0
          try clear hcz11_1
          try clear hcz11_2
          try clear hcz11_3
          try clear hcz11_4
          try clear hcz12_0
          try clear hcz12_1
          try clear hcz12_2
          try clear hcz12_3
          try clear hcz12_4
          try clear hcz17_0
          try clear hcz17_1
          try clear hcz17_2
          try clear hcz17_3
          try clear hcz17_4
          try clear hcz18_0
          try clear hcz18_1
          try clear hcz18_2
          try clear hcz18_3
          try clear hcz18_4
          try clear hcz6_0
          try clear hcz6_1
          try clear hcz6_2
          try clear hcz6_3
          try clear hcz6_4
          try clear hfz10_0
          try clear hfz10_1
          try clear hfz10_2
          try clear hfz10_3
          try clear hfz10_4
          try clear hfz11_0
          try clear hfz11_1
          try clear hfz11_2
          try clear hfz11_3
          try clear hfz11_4
          try clear hfz12_0
          try clear hfz12_1
          try clear hfz12_2
          try clear hfz12_3
          try clear hfz12_4
          try clear hfz17_0
          try clear hfz17_1
          try clear hfz17_2
          try clear hfz17_3
          try clear hfz17_4
          try clear hfz18_0
          try clear hfz18_1
          try clear hfz18_2
          try clear hfz18_3
          try clear hfz18_4
          try clear hfz6_0
          try clear hfz6_1
          try clear hfz6_2
          try clear hfz6_3
          try clear hfz6_4
          try clear p2
          obtain ⟨kq, x7_12, rfl, HA, HJ12, BK415, HB⟩ := hcut
          cases kq with
          | zero => exact absurd HA.out (by simp [tree_plain.j1])
          | succ kj12 =>
            have H := HA.out
            clear HA
            simp only [tree_plain.j1] at H
            by_cases c19 : x7_12 = true
            · subst c19
              have H1 : (some 2) = some r := by rw [if_pos rfl] at H; exact H
              clear H
              have H := H1
              clear H1
              obtain rfl := Option.some.inj H
              go_wp2
              go_ret
              exact ⟨by first | rfl | (simp [errW_none, errW_some] <;> rfl) | (simp [*, errW_none, errW_some] <;> rfl), by repeat (first | (with_reducible first | exact HB.out | apply below_alloc | apply pw_below_drewN | apply below_drew1 | refine below_set ?_ GE415.out) | exact HB.out)⟩
            · replace c19 := Bool.eq_false_iff.mpr c19
              subst c19
              have H1 : (if a0_0 = 4 then ((utf_Valid.f kj12 a0_2).bind fun t418 => (tree_plain.j2 kj12 (!t418) a0_0 a0_1 a0_2 l0_3 l0_4)) else (tree_plain.j2 kj12 false a0_0 a0_1 a0_2 l0_3 l0_4)) = some r := by rw [if_neg (show ¬ (false = true) by decide)] at H; exact H
              clear H
              have H := H1
              clear H1
              have HC20 := Aside0.mk H
              clear H
              go_upto_region 6 with (fail)
              go_cut [30] (fun v30 wc => ∃ (kq : Nat) (x30_19 : Bool), v30 = .bool x30_19 ∧ Aside0 (tree_plain.j2 kq x30_19 a0_0 a0_1 a0_2 l0_3 l0_4 = some r) ∧ Aside0 (kq ≤ kj12) ∧ Aside0 (wc.heap[gb415]? = some (.cells #[.int .i64 a0_0, .int .i64 a0_1, .string a0_2, (.slice A0_3 l0_3.length c0_3), (.slice A0_4 l0_4.length c0_4)] 25 (0, 0))) ∧ Aside0 (Below w.heap.size w wc))
              case first =>
                have H := HC20.out
                clear HC20
                by_cases c21 : a0_0 = 4
                · rw [if_pos c21] at H
                  have c21b0 : (a0_0 == 4) = true := beq_iff_eq.mpr c21
                  have c21b1 : (a0_0 != 4) = false := bne_eq_false_iff_eq.mpr c21
                  clear c21
                  (first | rw [c21b0] | (simp only [i64_w, i32_w]; rw [c21b0]) | skip)
                  replace H := Option.bind_eq_some_iff.mp H
                  obtain ⟨t418, A220, H⟩ := H
                  replace H : (tree_plain.j2 kj12 (!t418) a0_0 a0_1 a0_2 l0_3 l0_4) = some r := H
                  have A22 := Aside0.mk A220
                  clear A220
                  have H' := Aside0.mk H
                  clear H
                  have hcz23_0 : wc.cell? ⟨gb415, 0, none⟩ = some (.int .i64 a0_0) := (blk_cell BK415.out 0).trans rfl
                  have hcz23_1 : wc.cell? ⟨gb415, 1, none⟩ = some (.int .i64 a0_1) := (blk_cell BK415.out 1).trans rfl
                  have hcz23_2 : wc.cell? ⟨gb415, 2, none⟩ = some (.string a0_2) := (blk_cell BK415.out 2).trans rfl
                  have hcz23_3 : wc.cell? ⟨gb415, 3, none⟩ = some (.slice A0_3 l0_3.length c0_3) := (blk_cell BK415.out 3).trans rfl
                  have hcz23_4 : wc.cell? ⟨gb415, 4, none⟩ = some (.slice A0_4 l0_4.length c0_4) := (blk_cell BK415.out 4).trans rfl
                  have hfz23_0 := blk_frozen BK415.out 0
                  have hfz23_1 := blk_frozen BK415.out 1
                  have hfz23_2 := blk_frozen BK415.out 2
                  have hfz23_3 := blk_frozen BK415.out 3
                  have hfz23_4 := blk_frozen BK415.out 4
                  go_wp2_with (first | (go_at_call 54; (with_reducible refine (utf_Valid.calls kj12 a0_2 t418 _ A22.out).mono ?_); rintro e w24 ⟨rfl, hb⟩; have n0_ := Aside0.mk (blk_below (g := gb415) (o := .cells #[.int .i64 a0_0, .int .i64 a0_1, .string a0_2, .slice A0_3 l0_3.length c0_3, .slice A0_4 l0_4.length c0_4] 25 (0, 0)) (by (with_reducible repeat (first | refine blk_drewN ?_ _ | refine blk_drew ?_ | refine blk_alloc ?_ _)); exact BK415.out) hb); have n1_ := Aside0.mk (below_step (by repeat (first | (with_reducible first | exact HB.out | apply below_alloc | apply pw_below_drewN | apply below_drew1 | refine below_set ?_ GE415.out) | exact HB.out)) hb); clear BK415; clear HB; have BK415 := n0_; have HB := n1_; clear n0_ n1_; (try clear hb); (try clear hb2); (try clear hk); (try clear hi)))
                  go_meet
                  case rel => exact ⟨_, (!t418), (by first | rfl | (simp; done) | (simp [*]; done)), (by first | with_reducible exact H' | exact H' | (subst_vars; exact H')), ⟨by have := HJ3.out; have := HJ12.out; first | omega | exact Nat.le_refl _⟩, ⟨by (with_reducible repeat (first | refine blk_drewN ?_ _ | refine blk_drew ?_ | refine blk_alloc ?_ _)); exact BK415.out⟩, ⟨by repeat (first | (with_reducible first | exact HB.out | apply below_alloc | apply pw_below_drewN | apply below_drew1 | refine below_set ?_ GE415.out) | exact HB.out)⟩⟩
                · rw [if_neg c21] at H
                  have c21b0 : (a0_0 == 4) = false := beq_eq_false_iff_ne.mpr c21
                  have c21b1 : (a0_0 != 4) = true := bne_iff_ne.mpr c21
                  (first | rw [c21b0] | (simp only [i64_w, i32_w]; rw [c21b0]) | skip)
                  have H' := Aside0.mk H
                  clear H
                  have hcz25_0 : wc.cell? ⟨gb415, 0, none⟩ = some (.int .i64 a0_0) := (blk_cell BK415.out 0).trans rfl
                  have hcz25_1 : wc.cell? ⟨gb415, 1, none⟩ = some (.int .i64 a0_1) := (blk_cell BK415.out 1).trans rfl
                  have hcz25_2 : wc.cell? ⟨gb415, 2, none⟩ = some (.string a0_2) := (blk_cell BK415.out 2).trans rfl
                  have hcz25_3 : wc.cell? ⟨gb415, 3, none⟩ = some (.slice A0_3 l0_3.length c0_3) := (blk_cell BK415.out 3).trans rfl
                  have hcz25_4 : wc.cell? ⟨gb415, 4, none⟩ = some (.slice A0_4 l0_4.length c0_4) := (blk_cell BK415.out 4).trans rfl
                  have hfz25_0 := blk_frozen BK415.out 0
                  have hfz25_1 := blk_frozen BK415.out 1
                  have hfz25_2 := blk_frozen BK415.out 2
                  have hfz25_3 := blk_frozen BK415.out 3
                  have hfz25_4 := blk_frozen BK415.out 4
                  go_wp2
                  go_meet
                  case rel => exact ⟨_, (false), (by first | rfl | (simp; done) | (simp [*]; done)), (by first | with_reducible exact H' | exact H' | (subst_vars; exact H')), ⟨by have := HJ3.out; have := HJ12.out; first | omega | exact Nat.le_refl _⟩, ⟨by (with_reducible repeat (first | refine blk_drewN ?_ _ | refine blk_drew ?_ | refine blk_alloc ?_ _)); exact BK415.out⟩, ⟨by repeat (first | (with_reducible first | exact HB.out | apply below_alloc | apply pw_below_drewN | apply below_drew1 | refine below_set ?_ GE415.out) | exact HB.out)⟩⟩
              case rest =>
                clear HC20
                try clear c1
                try clear c2
                try clear p2
                try clear c3
                try clear c8
                try clear c8b0
                try clear c8b1
                try clear c9
                try clear c9b0
                try clear c9b1
                try clear c11
                try clear c13
                try clear c14
                try clear c15
                try clear c15b0
                try clear c15b1
                try clear c19
                try clear c21
                try clear c21b0
                try clear c21b1
                try clear hcz10_0
                try clear hcz10_1
                try clear hcz10_2
                try clear hcz10_3
                try clear hcz10_4
                try clear hcz11_0
                try clear hcz11_1
                try clear hcz11_2
                try clear hcz11_3
                try clear hcz11_4
                try clear hcz12_0
                try clear hcz12_1
                try clear hcz12_2
                try clear hcz12_3
                try clear hcz12_4
                try clear hcz17_0
                try clear hcz17_1
                try clear hcz17_2
                try clear hcz17_3
                try clear hcz17_4
                try clear hcz18_0
                try clear hcz18_1
                try clear hcz18_2
                try clear hcz18_3
                try clear hcz18_4
                try clear hcz23_0
                try clear hcz23_1
                try clear hcz23_2
                try clear hcz23_3
                try clear hcz23_4
                try clear hcz25_0
                try clear hcz25_1
                try clear hcz25_2
                try clear hcz25_3
                try clear hcz25_4
                try clear hcz6_0
                try clear hcz6_1
                try clear hcz6_2
                try clear hcz6_3
                try clear hcz6_4
                try clear hfz10_0
                try clear hfz10_1
                try clear hfz10_2
                try clear hfz10_3
                try clear hfz10_4
                try clear hfz11_0
                try clear hfz11_1
                try clear hfz11_2
                try clear hfz11_3
                try clear hfz11_4
                try clear hfz12_0
                try clear hfz12_1
                try clear hfz12_2
                try clear hfz12_3
                try clear hfz12_4
                try clear hfz17_0
                try clear hfz17_1
                try clear hfz17_2
                try clear hfz17_3
                try clear hfz17_4
                try clear hfz18_0
                try clear hfz18_1
                try clear hfz18_2
                try clear hfz18_3
                try clear hfz18_4
                try clear hfz23_0
                try clear hfz23_1
                try clear hfz23_2
                try clear hfz23_3
                try clear hfz23_4
                try clear hfz25_0
                try clear hfz25_1
                try clear hfz25_2
                try clear hfz25_3
                try clear hfz25_4
                try clear hfz6_0
                try clear hfz6_1
                try clear hfz6_2
                try clear hfz6_3
                try clear hfz6_4
                try clear p2
                obtain ⟨kq, x30_19, rfl, HA, HJ19, BK415, HB⟩ := hcut
                cases kq with
                | zero => exact absurd HA.out (by simp [tree_plain.j2])
                | succ kj19 =>
                  have H := HA.out
                  clear HA
                  simp only [tree_plain.j2] at H
                  by_cases c26 : x30_19 = true
                  · subst c26
                    have H1 : (some 10) = some r := by rw [if_pos rfl] at H; exact H
                    clear H
                    have H := H1
                    clear H1
                    obtain rfl := Option.some.inj H
                    go_wp2
                    go_ret
                    exact ⟨by first | rfl | (simp [errW_none, errW_some] <;> rfl) | (simp [*, errW_none, errW_some] <;> rfl), by repeat (first | (with_reducible first | exact HB.out | apply below_alloc | apply pw_below_drewN | apply below_drew1 | refine below_set ?_ GE415.out) | exact HB.out)⟩
                  · replace c26 := Bool.eq_false_iff.mpr c26
                    subst c26
                    have H1 : (if a0_0 = 6 then (if (l0_3.length : Int) = (l0_4.length : Int) then (some 0) else (some 1)) else (some 0)) = some r := by rw [if_neg (show ¬ (false = true) by decide)] at H; exact H
                    clear H
                    have H := H1
                    clear H1
                    by_cases c27 : a0_0 = 6
                    · rw [if_pos c27] at H
                      have c27b0 : (a0_0 == 6) = true := beq_iff_eq.mpr c27
                      have c27b1 : (a0_0 != 6) = false := bne_eq_false_iff_eq.mpr c27
                      clear c27
                      by_cases c28 : (l0_3.length : Int) = (l0_4.length : Int)
                      · rw [if_pos c28] at H
                        have c28b0 : ((l0_3.length : Int) == (l0_4.length : Int)) = true := beq_iff_eq.mpr c28
                        have c28b1 : ((l0_3.length : Int) != (l0_4.length : Int)) = false := bne_eq_false_iff_eq.mpr c28
                        have c28b2 : (l0_3.length == l0_4.length) = true := by first | simpa using c28 | (simp at c28 ⊢; omega)
                        clear c28
                        obtain rfl := Option.some.inj H
                        have hcz29_0 : wc.cell? ⟨gb415, 0, none⟩ = some (.int .i64 a0_0) := (blk_cell BK415.out 0).trans rfl
                        have hcz29_1 : wc.cell? ⟨gb415, 1, none⟩ = some (.int .i64 a0_1) := (blk_cell BK415.out 1).trans rfl
                        have hcz29_2 : wc.cell? ⟨gb415, 2, none⟩ = some (.string a0_2) := (blk_cell BK415.out 2).trans rfl
                        have hcz29_3 : wc.cell? ⟨gb415, 3, none⟩ = some (.slice A0_3 l0_3.length c0_3) := (blk_cell BK415.out 3).trans rfl
                        have hcz29_4 : wc.cell? ⟨gb415, 4, none⟩ = some (.slice A0_4 l0_4.length c0_4) := (blk_cell BK415.out 4).trans rfl
                        have hfz29_0 := blk_frozen BK415.out 0
                        have hfz29_1 := blk_frozen BK415.out 1
                        have hfz29_2 := blk_frozen BK415.out 2
                        have hfz29_3 := blk_frozen BK415.out 3
                        have hfz29_4 := blk_frozen BK415.out 4
                        go_wp2
                        go_ret
                        exact ⟨by first | rfl | (simp [errW_none, errW_some] <;> rfl) | (simp [*, errW_none, errW_some] <;> rfl), by repeat (first | (with_reducible first | exact HB.out | apply below_alloc | apply pw_below_drewN | apply below_drew1 | refine below_set ?_ GE415.out) | exact HB.out)⟩
                      · rw [if_neg c28] at H
                        have c28b0 : ((l0_3.length : Int) == (l0_4.length : Int)) = false := beq_eq_false_iff_ne.mpr c28
                        have c28b1 : ((l0_3.length : Int) != (l0_4.length : Int)) = true := bne_iff_ne.mpr c28
                        have c28b2 : (l0_3.length == l0_4.length) = false := by first | simpa using c28 | (simp at c28 ⊢; omega)
                        obtain rfl := Option.some.inj H
                        have hcz30_0 : wc.cell? ⟨gb415, 0, none⟩ = some (.int .i64 a0_0) := (blk_cell BK415.out 0).trans rfl
                        have hcz30_1 : wc.cell? ⟨gb415, 1, none⟩ = some (.int .i64 a0_1) := (blk_cell BK415.out 1).trans rfl
                        have hcz30_2 : wc.cell? ⟨gb415, 2, none⟩ = some (.string a0_2) := (blk_cell BK415.out 2).trans rfl
                        have hcz30_3 : wc.cell? ⟨gb415, 3, none⟩ = some (.slice A0_3 l0_3.length c0_3) := (blk_cell BK415.out 3).trans rfl
                        have hcz30_4 : wc.cell? ⟨gb415, 4, none⟩ = some (.slice A0_4 l0_4.length c0_4) := (blk_cell BK415.out 4).trans rfl
                        have hfz30_0 := blk_frozen BK415.out 0
                        have hfz30_1 := blk_frozen BK415.out 1
                        have hfz30_2 := blk_frozen BK415.out 2
                        have hfz30_3 := blk_frozen BK415.out 3
                        have hfz30_4 := blk_frozen BK415.out 4
                        go_wp2
                        go_ret
                        exact ⟨by first | rfl | (simp [errW_none, errW_some] <;> rfl) | (simp [*, errW_none, errW_some] <;> rfl), by repeat (first | (with_reducible first | exact HB.out | apply below_alloc | apply pw_below_drewN | apply below_drew1 | refine below_set ?_ GE415.out) | exact HB.out)⟩
                    · rw [if_neg c27] at H
                      have c27b0 : (a0_0 == 6) = false := beq_eq_false_iff_ne.mpr c27
                      have c27b1 : (a0_0 != 6) = true := bne_iff_ne.mpr c27
                      obtain rfl := Option.some.inj H
                      have hcz31_0 : wc.cell? ⟨gb415, 0, none⟩ = some (.int .i64 a0_0) := (blk_cell BK415.out 0).trans rfl
                      have hcz31_1 : wc.cell? ⟨gb415, 1, none⟩ = some (.int .i64 a0_1) := (blk_cell BK415.out 1).trans rfl
                      have hcz31_2 : wc.cell? ⟨gb415, 2, none⟩ = some (.string a0_2) := (blk_cell BK415.out 2).trans rfl
                      have hcz31_3 : wc.cell? ⟨gb415, 3, none⟩ = some (.slice A0_3 l0_3.length c0_3) := (blk_cell BK415.out 3).trans rfl
                      have hcz31_4 : wc.cell? ⟨gb415, 4, none⟩ = some (.slice A0_4 l0_4.length c0_4) := (blk_cell BK415.out 4).trans rfl
                      have hfz31_0 := blk_frozen BK415.out 0
                      have hfz31_1 := blk_frozen BK415.out 1
                      have hfz31_2 := blk_frozen BK415.out 2
                      have hfz31_3 := blk_frozen BK415.out 3
                      have hfz31_4 := blk_frozen BK415.out 4
                      go_wp2
                      go_ret
                      exact ⟨by first | rfl | (simp [errW_none, errW_some] <;> rfl) | (simp [*, errW_none, errW_some] <;> rfl), by repeat (first | (with_reducible first | exact HB.out | apply below_alloc | apply pw_below_drewN | apply below_drew1 | refine below_set ?_ GE415.out) | exact HB.out)⟩
  · replace c3 := Bool.eq_false_iff.mpr c3
    subst c3
    have H1 : (some 7) = some r := by rw [if_neg (show ¬ (false = true) by decide)] at H; exact H
    clear H
    have H := H1
    clear H1
    obtain rfl := Option.some.inj H
    have hu120 := Try.underlying120
    go_enter Try.func113, Try.ntmps113
    go_wp2_with (first | ((with_reducible refine gate_dst (N := 1) rfl ?_); (try (refine gate_guard (by rfl) ?_; dsimp only)); refine box_event ?hg (N := 1) ?hd (cs := #[.int .i64 a0_0, .int .i64 a0_1, .string a0_2, .slice A0_3 l0_3.length c0_3, .slice A0_4 l0_4.length c0_4]) (t := 25) ?hr ?_; (case hd => rfl); (case hg => rfl); (case hr => first | (go_simp; done) | (go_simp; rfl)); intro gb415 hg w32 hbox hb; have n0_ := Aside0.mk (below_step (by repeat (first | (with_reducible first | exact HB.out | apply below_alloc | apply pw_below_drewN | apply below_drew1) | exact HB.out)) hb); have n1_ := Aside0.mk (hbox); have n2_ := Aside0.mk ((by rw [hg]; exact (below_size (by repeat (first | (with_reducible first | exact HB.out | apply below_alloc | apply pw_below_drewN | apply below_drew1) | exact HB.out))) : w.heap.size ≤ gb415)); have n3_ := Aside0.mk ((by rw [hg]; exact (below_size (by repeat (first | (with_reducible first | exact HB.out | apply below_alloc | apply pw_below_drewN | apply below_drew1) | exact HB.out))) : w.heap.size ≤ gb415)); clear HB; have HB := n0_; have BK415 := n1_; have GW415 := n2_; have GE415 := n3_; clear n0_ n1_ n2_ n3_; clear hb hbox hg; have hcz33_0 : w32.cell? ⟨gb415, 0, none⟩ = some (.int .i64 a0_0) := (blk_cell BK415.out 0).trans rfl; have hcz33_1 : w32.cell? ⟨gb415, 1, none⟩ = some (.int .i64 a0_1) := (blk_cell BK415.out 1).trans rfl; have hcz33_2 : w32.cell? ⟨gb415, 2, none⟩ = some (.string a0_2) := (blk_cell BK415.out 2).trans rfl; have hcz33_3 : w32.cell? ⟨gb415, 3, none⟩ = some (.slice A0_3 l0_3.length c0_3) := (blk_cell BK415.out 3).trans rfl; have hcz33_4 : w32.cell? ⟨gb415, 4, none⟩ = some (.slice A0_4 l0_4.length c0_4) := (blk_cell BK415.out 4).trans rfl; have hfz33_0 := blk_frozen BK415.out 0; have hfz33_1 := blk_frozen BK415.out 1; have hfz33_2 := blk_frozen BK415.out 2; have hfz33_3 := blk_frozen BK415.out 3; have hfz33_4 := blk_frozen BK415.out 4) | ((with_reducible refine gate_callee (f := 138) rfl ?_); refine goesL_ (some 5) rfl rfl Try.func138 (by kernel_rfl) rfl #[.agg #[.int .i64 a0_0, .int .i64 a0_1, .string a0_2, .slice A0_3 l0_3.length c0_3, .slice A0_4 l0_4.length c0_4]] rfl (by (try simp only [List.map_toArray, List.map_cons, List.map_nil]); first | done | rfl | (simp only [List.length_drop, List.length_take]; rfl)) ?_; (with_reducible refine (tree_own.calls k a0_0 a0_1 a0_2 _ _ l0_3 _ _ l0_4 false _ ?side1 ?side2 ?side3 ?side4 A2.out).mono ?_); (case side1 => repeat (first | exact (Kd.C_below HR0_3.out HB.out) | (with_reducible refine Kd.C_alloc ?_ _) | (with_reducible refine Kd.C_drewN ?_ _) | (with_reducible refine Kd.C_drew ?_))); (case side2 => exact HC0_3.out); (case side3 => repeat (first | exact (Kd.C_below HR0_4.out HB.out) | (with_reducible refine Kd.C_alloc ?_ _) | (with_reducible refine Kd.C_drewN ?_ _) | (with_reducible refine Kd.C_drew ?_))); (case side4 => exact HC0_4.out); rintro e w34 ⟨rfl, hb⟩; refine ⟨_, rfl, ?_⟩; have n0_ := Aside0.mk (blk_below (g := gb415) (o := .cells #[.int .i64 a0_0, .int .i64 a0_1, .string a0_2, .slice A0_3 l0_3.length c0_3, .slice A0_4 l0_4.length c0_4] 25 (0, 0)) (by (with_reducible repeat (first | refine blk_drewN ?_ _ | refine blk_drew ?_ | refine blk_alloc ?_ _)); exact BK415.out) hb); have n1_ := Aside0.mk (below_step (by repeat (first | (with_reducible first | exact HB.out | apply below_alloc | apply pw_below_drewN | apply below_drew1 | refine below_set ?_ GE415.out) | exact HB.out)) hb); clear BK415; clear HB; have BK415 := n0_; have HB := n1_; clear n0_ n1_; (try clear hb); (try clear hb2); (try clear hk); (try clear hi)))
    go_ret
    exact ⟨by first | rfl | (simp [errW_none, errW_some] <;> rfl) | (simp [*, errW_none, errW_some] <;> rfl), by repeat (first | (with_reducible first | exact HB.out | apply below_alloc | apply pw_below_drewN | apply below_drew1 | refine below_set ?_ GE415.out) | exact HB.out)⟩
end Go.Proofs.Ytjdldlphfifggaa.X
end
section
namespace Go.Proofs.Ytjdldlphfifggaa.X
open Go.RowKit Go.Proofs.YtjdldlphfifggaaW.PrintWords Go.Proofs.YtjdldlphfifggaaW.PrintLast Go.Proofs.YtjdldlphfifggaaW.PrintMore Go.WideMaps Go.Maps
set_option linter.unusedVariables false
set_option linter.unusedSimpArgs false
abbrev nil0 : Value := .int .i64 0
theorem zeroInt (w : World) : (zeroValue 3).run Try.prog w = .ok nil0 w := by kernel_rfl
structure CM (W : World) (b n : Nat) (f : List UInt8 → Int) : Prop where
  m : ∃ D : DataW Value, IsMap D ∧ W.ownsMap Try.prog 9 rawR b n D ∧ ∀ k, D.atKey (.string k) (.held nil0) = .held (.int .i64 (f k))
section
variable {W W1 : World} {b n : Nat} {f : List UInt8 → Int}
theorem CM.lt (h : CM W b n f) : b < W.heap.size := by obtain ⟨D, _, h1, _⟩ := h.m; exact h1.lt
theorem CM.new (W : World) : CM (W.alloc (.map #[] 0)) W.heap.size 0 (fun _ => 0) :=
  ⟨⟨_, isMap_empty, World.ownsMap_made (H := Value) W Try.prog 9 rawR, fun k => rfl⟩⟩
theorem CM.kept (h : CM W b n f) (hb : W1.heap[b]? = W.heap[b]?) : CM W1 b n f := by
  obtain ⟨D, hi, ⟨es, clock, hm, h2⟩, ha⟩ := h.m
  exact ⟨⟨D, hi, ⟨es, clock, hb.trans hm, h2⟩, ha⟩⟩
theorem CM.step (h : CM W b n f) (hb : Below W.heap.size W W1) : CM W1 b n f := h.kept (hb.block _ h.lt)
theorem CM.look (h : CM W b n f) (k : ByteArray) (hk : k.size ≤ maxLen) :
    (Instr.lookup 111 (.map (some b)) (.string k) false).run Try.prog W = .ok (.int .i64 (f k.data.toList)) W := by
  obtain ⟨D, hi, hm, ha⟩ := h.m
  obtain ⟨v, ps, hrun, hv⟩ := hm.lookup keyT Try.underlying111 (zeroInt _) (zd := .held nil0) (zp := []) rfl (keyOf_string_mk Try.underlying9 hk)
  rw [ha] at hv
  rw [hrun]
  unfold rawR at hv
  simp only [Option.some.injEq, Prod.mk.injEq, DataW.held.injEq] at hv
  rw [hv.1]
theorem CM.put (h : CM W b n f) (hn : n < maxLen) (k : ByteArray) (hk : k.size ≤ maxLen) (v : Int) :
    ∃ W2, (Instr.mapUpdate 111 (.map (some b)) (.string k) (.int .i64 v)).run Try.prog W = .ok () W2 ∧ CM W2 b (n + 1) (upd f k.data.toList v) ∧ W.grownBy W2 (some b) := by
  obtain ⟨D, hi, hm, ha⟩ := h.m
  obtain ⟨W2, hrun, hm2, hg2⟩ := hm.update (val := .int .i64 v) (d := .held (.int .i64 v)) (ps := []) keyT Try.underlying111 hn (keyOf_string_mk Try.underlying9 hk) rfl
  refine ⟨W2, hrun, ⟨⟨_, hi.put _ _, hm2, fun x => ?_⟩⟩, hg2⟩
  by_cases e : x = k.data.toList
  · subst e; rw [upd_same]; exact atKey_put_same hi (show WideAt.IsKeyLit (.string _) from trivial) _ _
  · rw [upd_other _ _ e, atKey_put_other (fun he => e (by injection he))]; exact ha x
end
def twice (K : List ByteArray) (i : Nat) : Bool := (K.take i).any fun x => x.data.toList == (K.getD i ByteArray.empty).data.toList
def fHad (K : List ByteArray) (i : Nat) : List UInt8 → Int := fun s => if (K.take i).any (fun x => x.data.toList == s) = true then 1 else 0
theorem fHad_zero (K : List ByteArray) : fHad K 0 = fun _ => 0 := by funext s; simp [fHad]
theorem fHad_at {K : List ByteArray} {i : Nat} (h : i < K.length) : fHad K i K[i].data.toList = if twice K i = true then 1 else 0 := by
  unfold fHad twice
  rw [List.getD_eq_getElem?_getD, List.getElem?_eq_getElem h]
  rfl
theorem fHad_next {K : List ByteArray} {i : Nat} (h : i < K.length) (ht : twice K i = false) : upd (fHad K i) K[i].data.toList 1 = fHad K (i + 1) := by
  funext s
  unfold upd fHad
  rw [List.take_succ_eq_append_getElem h, List.any_append]
  by_cases e : s = K[i].data.toList
  · subst e; simp
  · rw [if_neg e]
    have : (K[i].data.toList == s) = false := by simpa using fun h => e h.symm
    simp [this]
def check_pre (k : Nat) (a0 : Int) (K : List ByteArray) (i : Nat) : Option Int :=
  if a0 = 6 then (if i < K.length ∧ (K.getD i ByteArray.empty).size ≤ 140737488351232 then (utf_Valid.f k (K.getD i ByteArray.empty)).bind fun v => if v = true then (if twice K i = true then some 9 else some 0) else some 10 else none) else some 0
mutual
def tree_check.f : Nat → Int → Int → ByteArray → List ByteArray → List S25 → Int → Option Int
  | 0, _, _, _, _, _, _ => none
  | k + 1, a0, a1, a2, K, L, deep => if deep < 0 then none else (if deep > 64 then some 13 else (tree_plain.f k a0 a1 a2 K L).bind fun e => if e = 0 then tree_check.l k a0 K L deep 0 else some e)
def tree_check.l : Nat → Int → List ByteArray → List S25 → Int → Nat → Option Int
  | 0, _, _, _, _, _ => none
  | k + 1, a0, K, L, deep, i => if h : i < L.length then (check_pre k a0 K i).bind fun p => if p = 0 then (tree_check.f k L[i].f0 L[i].f1 L[i].f2 L[i].f3 L[i].f4 (deep + 1)).bind fun e => if e = 0 then tree_check.l k a0 K L deep (i + 1) else some e else some p else some 0
end
theorem check_pre.mono (k : Nat) (a0 : Int) (K : List ByteArray) (i : Nat) : LeO (check_pre k a0 K i) (check_pre (k + 1) a0 K i) := by
  unfold check_pre
  exact LeO.ite (LeO.ite (LeO.bind (utf_Valid.mono _ _) (fun _ => LeO.refl _)) (LeO.refl _)) (LeO.refl _)
theorem tree_check.mono_l : ∀ k, (∀ a0 a1 a2 K L d, LeO (tree_check.f k a0 a1 a2 K L d) (tree_check.f (k + 1) a0 a1 a2 K L d)) ∧ (∀ a0 K L d i, LeO (tree_check.l k a0 K L d i) (tree_check.l (k + 1) a0 K L d i))
  | 0 => ⟨fun _ _ _ _ _ _ r h => by simp [tree_check.f] at h, fun _ _ _ _ _ r h => by simp [tree_check.l] at h⟩
  | k + 1 => by
    have ih := tree_check.mono_l k
    refine ⟨fun a0 a1 a2 K L d => ?_, fun a0 K L d i => ?_⟩
    · rw [tree_check.f, tree_check.f]
      exact LeO.ite (LeO.refl _) (LeO.ite (LeO.refl _) (LeO.bind (tree_plain.mono _ _ _ _ _ _) (fun _ => LeO.ite (ih.2 _ _ _ _ _) (LeO.refl _))))
    · rw [tree_check.l, tree_check.l]
      by_cases h : i < L.length
      · rw [dif_pos h, dif_pos h]
        exact LeO.bind (check_pre.mono _ _ _ _) (fun _ => LeO.ite (LeO.bind (ih.1 _ _ _ _ _ _) (fun _ => LeO.ite (ih.2 _ _ _ _ _) (LeO.refl _))) (LeO.refl _))
      · rw [dif_neg h, dif_neg h]
        exact LeO.refl _
theorem tree_check.mono : ∀ a0 a1 a2 K L d k, LeO (tree_check.f k a0 a1 a2 K L d) (tree_check.f (k + 1) a0 a1 a2 K L d) := fun a0 a1 a2 K L d k => (tree_check.mono_l k).1 a0 a1 a2 K L d
set_option maxHeartbeats 12800000 in
set_option maxRecDepth 100000 in
theorem tree_check.calls (k : Nat) : ∀ (a0_0 : Int) (a0_1 : Int) (a0_2 : ByteArray) (A0_3 : Option Addr) (c0_3 : Nat) (l0_3 : List ByteArray) (A0_4 : Option Addr) (c0_4 : Nat) (l0_4 : List (S25)) (a1 : Int) (r : Int) (w : World) (hr0_3 : Kd.C Kd.string w A0_3 l0_3.length l0_3) (hc0_3 : l0_3.length ≤ c0_3) (hr0_4 : Kd.C k25 w A0_4 l0_4.length l0_4) (hc0_4 : l0_4.length ≤ c0_4) (h : tree_check.f k a0_0 a0_1 a0_2 l0_3 l0_4 a1 = some r),
    Calls Try.prog 66 #[.agg #[.int .i64 a0_0, .int .i64 a0_1, .string a0_2, .slice A0_3 l0_3.length c0_3, .slice A0_4 l0_4.length c0_4], .int .i64 a1] w fun e w' => e = .returned (.int .i64 r) ∧ Below w.heap.size w w' := by
  induction k using Nat.strongRecOn with
  | _ k ih =>
  intro a0_0 a0_1 a0_2 A0_3 c0_3 l0_3 A0_4 c0_4 l0_4 a1 r w hr0_3 hc0_3 hr0_4 hc0_4 h
  cases k with
  | zero => exact absurd h (by simp [tree_check.f])
  | succ k =>
  rw [tree_check.f] at h
  have HR3 := Aside0.mk hr0_3
  have HR4 := Aside0.mk hr0_4
  have IH := Aside0.mk ih
  clear hr0_3 hr0_4 ih
  by_cases d0 : a1 < 0
  · rw [if_pos d0] at h; cases h
  rw [if_neg d0] at h
  by_cases d64 : a1 > 64
  · rw [if_pos d64] at h
    injection h with h
    subst h
    have d64b : decide (a1 > 64) = true := decide_eq_true d64
    have d64c : decide ((64 : Int) < a1) = true := decide_eq_true d64
    go_enter Try.func66, Try.ntmps66
    go_wp2_with fail
    go_ret
    exact ⟨rfl, below_alloc (Below.refl _ _) _⟩
  rw [if_neg d64] at h
  have d64b : decide (a1 > 64) = false := decide_eq_false d64
  have d64c : decide ((64 : Int) < a1) = false := decide_eq_false d64
  obtain ⟨e0, hp, h⟩ := Option.bind_eq_some_iff.1 h
  have HP := Aside0.mk hp
  clear hp
  have hB0 : Bxs w (w.alloc (.cells #[.int .i64 a0_0, .int .i64 a0_1, .string a0_2, .slice A0_3 l0_3.length c0_3, .slice A0_4 l0_4.length c0_4] nodeT)) [(#[.int .i64 a0_0, .int .i64 a0_1, .string a0_2, .slice A0_3 l0_3.length c0_3, .slice A0_4 l0_4.length c0_4], nodeT)] := ((Bx0.start w).alloc _ _).x
  have HB0 := Aside0.mk hB0
  clear hB0
  by_cases he0 : e0 = 0
  · rw [if_pos he0] at h
    subst he0
    have H := Aside0.mk h
    clear h
    have hmm := @run_makeMap Try.prog
    go_enter Try.func66, Try.ntmps66
    go_wp2_with fail
    generalize w.alloc (.cells #[.int .i64 a0_0, .int .i64 a0_1, .string a0_2, .slice A0_3 l0_3.length c0_3, .slice A0_4 l0_4.length c0_4] nodeT) = W0 at HB0 ⊢
    go_wp2_with (go_at_call 113; (with_reducible refine (tree_plain.calls k a0_0 a0_1 a0_2 A0_3 c0_3 l0_3 A0_4 c0_4 l0_4 0 W0 (Kd.C_below HR3.out HB0.out.B) hc0_3 (Kd.C_below HR4.out HB0.out.B) hc0_4 HP.out).mono ?_); rintro e w1 ⟨rfl, hb1⟩; have HB1 := Aside0.mk (HB0.out.step (below_then (Below.refl _ _) (Nat.le_refl _) hb1)); clear hb1; have y4 := HB1.out.cell 0 4 rfl; simp only [List.getElem?_toArray, List.getElem?_cons_zero, List.getElem?_cons_succ, Nat.add_zero] at y4; have hlt0 := HB1.out.lt 0 rfl; rw [Nat.add_zero] at hlt0)
    clear y4
    have hCM : CM (w1.alloc (.map #[] 0)) w1.heap.size 0 (fun _ => 0) := CM.new w1
    have HBm := Aside0.mk (HB1.out.step (below_alloc (Below.refl _ w1) (.map #[] 0)))
    have HCM := Aside0.mk hCM
    clear hCM
    have hl4 : l0_4.length ≤ 9223372036854775807 := HR4.out.2.1
    go_loopg [22] k (fun kq v22 W => ∃ (i : Nat), v22 = .int .i64 (i : Int) ∧ Aside0 (kq ≤ k) ∧ Aside0 (tree_check.l kq a0_0 l0_3 l0_4 a1 i = some r) ∧ Aside0 (i ≤ l0_4.length) ∧ Aside0 (Bxs w W [(#[.int .i64 a0_0, .int .i64 a0_1, .string a0_2, .slice A0_3 l0_3.length c0_3, .slice A0_4 l0_4.length c0_4], nodeT)]) ∧ Aside0 (w1.heap.size < W.heap.size ∧ (a0_0 = 6 → CM W w1.heap.size i (fHad l0_3 i))))
    case atStart => exact ⟨0, rfl, ⟨Nat.le_refl _⟩, H, ⟨Nat.zero_le _⟩, HBm, ⟨by rw [size_alloc]; omega, fun _ => by rw [fHad_zero]; exact HCM.out⟩⟩
    case round =>
      obtain ⟨i, rfl, hkq, hl, hi, hB, hM⟩ := hrel
      cases gk with
      | zero => exact absurd hl.out (by simp [tree_check.l])
      | succ k1 =>
        have hl2 := hl.out
        rw [tree_check.l] at hl2
        by_cases c5 : i < l0_4.length
        · rw [dif_pos c5] at hl2
          have c5b : decide ((i : Int) < (l0_4.length : Int)) = true := decide_eq_true (by omega)
          have p5 : ((0 : Int) ≤ (i : Int)) = True := eq_true (by omega)
          have q5 : ((i : Int) < (l0_4.length : Int)) = True := eq_true (by omega)
          obtain ⟨ad, B3, d3, B4, d4, e7, x0, x1, x2, x3, x4, n3, i3, n4, i4⟩ := at_T25 HR4.out (i : Int) (by omega) (by omega)
          subst e7
          rw [rdn l0_4 i c5] at x0 x1 x2 x3 x4 n3 i3 n4 i4
          simp only [Int.toNat_natCast] at x0 x1 x2 x3 x4
          have up : ∀ {p : Addr} {v : Value}, w.cell? p = some v → wr.cell? p = some v := fun h => (hB.out.B.cell (World.block_lt_of_cell? _ _ h)).trans h
          replace x0 := up x0
          replace x1 := up x1
          replace x2 := up x2
          replace x3 := up x3
          replace x4 := up x4
          generalize l0_4[i] = x at x0 x1 x2 x3 x4 n3 i3 n4 i4 hl2
          have HI3 := Aside0.mk i3
          have HI4 := Aside0.mk i4
          clear i3 i4
          have y0 := hB.out.cell 0 0 rfl
          have y3 := hB.out.cell 0 3 rfl
          simp only [List.getElem?_toArray, List.getElem?_cons_zero, List.getElem?_cons_succ, Nat.add_zero] at y0 y3
          have hlt0 : w.heap.size < wr.heap.size := by have := hB.out.lt 0 rfl; omega
          have hsum : wrap64 (a1 + 1) = a1 + 1 := w64 (by omega) (by omega)
          obtain ⟨p, hpre, hl3⟩ := Option.bind_eq_some_iff.1 hl2
          clear hl2
          by_cases c6 : a0_0 = 6
          · have c6b : (a0_0 == 6) = true := by simpa using c6
            unfold check_pre at hpre
            rw [if_pos c6] at hpre
            split at hpre
            · rename_i hlen
              obtain ⟨hik, hsz⟩ := hlen
              obtain ⟨vb, hv, hpre⟩ := Option.bind_eq_some_iff.1 hpre
              have hK : l0_3.getD i ByteArray.empty = l0_3[i] := by rw [List.getD_eq_getElem?_getD, List.getElem?_eq_getElem hik]; rfl
              rw [hK] at hv hsz
              obtain ⟨ad3, e8, z0⟩ := Kd.at_string HR3.out (i : Int) (by omega) (by omega)
              subst e8
              rw [rds l0_3 i hik] at z0
              simp only [Int.toNat_natCast] at z0
              replace z0 := up z0
              have hzl := World.block_lt_of_cell? _ _ z0
              clear up
              have q6 : ((i : Int) < (l0_3.length : Int)) = True := eq_true (by omega)
              have HAT := Aside0.mk (fHad_at hik)
              have HNX := Aside0.mk (fHad_next hik)
              generalize hky : l0_3[i] = ky at z0 hv hsz HAT HNX
              clear hky hK
              have HV := Aside0.mk hv
              clear hv
              have hszm : ky.size ≤ maxLen := by unfold maxLen; omega
              have hszA := Aside0.mk hszm
              clear hszm
              cases vb with
              | false =>
                rw [if_neg (by simp)] at hpre
                injection hpre with hpre
                subst hpre
                rw [if_neg (by decide)] at hl3
                injection hl3 with hl3
                subst hl3
                go_wp2_with (go_at_call 54; (with_reducible refine (utf_Valid.calls k1 ky false _ HV.out).mono ?_); rintro e w3 ⟨rfl, hb3⟩; have HB3 := Aside0.mk hb3; clear hb3)
                go_ret
                exact ⟨rfl, below_then (below_alloc hB.out.B _) (Nat.le_trans hB.out.B.size (below_alloc (Below.refl _ wr) _).size) HB3.out⟩
              | true =>
                rw [if_pos rfl] at hpre
                have hnn : i < maxLen := by unfold maxLen; omega
                have HNN := Aside0.mk hnn
                clear hnn
                have HM6 := Aside0.mk (hM.out.2 c6)
                clear c6
                cases ht : twice l0_3 i with
                | true =>
                  rw [ht, if_pos rfl] at hpre
                  injection hpre with hpre
                  subst hpre
                  rw [if_neg (by decide)] at hl3
                  injection hl3 with hl3
                  subst hl3
                  have HATT := Aside0.mk (HAT.out.trans (by rw [ht, if_pos rfl]))
                  clear ht
                  go_wp2_with (go_at_call 54; (with_reducible refine (utf_Valid.calls k1 ky true _ HV.out).mono ?_); rintro e w3 ⟨rfl, hb3⟩; have b8 := blk_below (blk_new wr (.cells #[.int .i64 x.f0, .int .i64 x.f1, .string x.f2, .slice B3 x.f3.length d3, .slice B4 x.f4.length d4] nodeT)) hb3; have hb03 := below_then (below_alloc (Below.refl wr.heap.size wr) (.cells #[.int .i64 x.f0, .int .i64 x.f1, .string x.f2, .slice B3 x.f3.length d3, .slice B4 x.f4.length d4] nodeT)) (below_alloc (Below.refl wr.heap.size wr) (.cells #[.int .i64 x.f0, .int .i64 x.f1, .string x.f2, .slice B3 x.f3.length d3, .slice B4 x.f4.length d4] nodeT)).size hb3; have hM3 := HM6.out.step hb03; have hlook := hM3.look ky hszA.out; rw [HATT.out] at hlook; obtain ⟨W2, hupd, hM4, hg4⟩ := hM3.put HNN.out ky hszA.out 2; have hlook2 := hM4.look ky hszA.out; rw [upd_same] at hlook2; have b82 := blk_grown b8 hg4 (fun e => by injection e with e; have := hM.out.1; omega); have HB2 := Aside0.mk ((hB.out.step hb03).grown hg4 (by simp only [List.length_singleton]; omega)); have HM4 := Aside0.mk hM4; have hsz2 : w1.heap.size < W2.heap.size := Nat.lt_of_lt_of_le hM3.lt hg4.size; have q0 := blk_cell b82 0; have q1 := blk_cell b82 1; have q2 := blk_cell b82 2; have q3 := blk_cell b82 3; have q4 := blk_cell b82 4; simp only [List.getElem?_toArray, List.getElem?_cons_zero, List.getElem?_cons_succ] at q0 q1 q2 q3 q4; clear b8 b82 hb3 hM3 hM4 hg4 hb03)
                  go_ret
                  exact ⟨rfl, HB2.out.B⟩
                | false =>
                  rw [ht, if_neg (by simp)] at hpre
                  injection hpre with hpre
                  subst hpre
                  rw [if_pos rfl] at hl3
                  have HATT := Aside0.mk (HAT.out.trans (by rw [ht, if_neg (by simp)]))
                  have HNXT := Aside0.mk (HNX.out ht)
                  clear ht
                  obtain ⟨e1, hfe, hl4⟩ := Option.bind_eq_some_iff.1 hl3
                  have HFE := Aside0.mk hfe
                  clear hl3 hfe
                  by_cases he1 : e1 = 0
                  · rw [if_pos he1] at hl4
                    subst he1
                    have HL4 := Aside0.mk hl4
                    clear hl4
                    go_wp2_with (first
                      | (go_at_call 54; (with_reducible refine (utf_Valid.calls k1 ky true _ HV.out).mono ?_); rintro e w3 ⟨rfl, hb3⟩; have b8 := blk_below (blk_new wr (.cells #[.int .i64 x.f0, .int .i64 x.f1, .string x.f2, .slice B3 x.f3.length d3, .slice B4 x.f4.length d4] nodeT)) hb3; have hb03 := below_then (below_alloc (Below.refl wr.heap.size wr) (.cells #[.int .i64 x.f0, .int .i64 x.f1, .string x.f2, .slice B3 x.f3.length d3, .slice B4 x.f4.length d4] nodeT)) (below_alloc (Below.refl wr.heap.size wr) (.cells #[.int .i64 x.f0, .int .i64 x.f1, .string x.f2, .slice B3 x.f3.length d3, .slice B4 x.f4.length d4] nodeT)).size hb3; have hM3 := HM6.out.step hb03; have hlook := hM3.look ky hszA.out; rw [HATT.out] at hlook; obtain ⟨W2, hupd, hM4, hg4⟩ := hM3.put HNN.out ky hszA.out 1; have hlook2 := hM4.look ky hszA.out; rw [upd_same] at hlook2; have b82 := blk_grown b8 hg4 (fun e => by injection e with e; have := hM.out.1; omega); have HB2 := Aside0.mk ((hB.out.step hb03).grown hg4 (by simp only [List.length_singleton]; omega)); have HM4 := Aside0.mk hM4; have hsz2 : w1.heap.size < W2.heap.size := Nat.lt_of_lt_of_le hM3.lt hg4.size; have q0 := blk_cell b82 0; have q1 := blk_cell b82 1; have q2 := blk_cell b82 2; have q3 := blk_cell b82 3; have q4 := blk_cell b82 4; simp only [List.getElem?_toArray, List.getElem?_cons_zero, List.getElem?_cons_succ] at q0 q1 q2 q3 q4; clear b8 b82 hb3 hM3 hM4 hg4 hb03)
                      | (go_at_call 66; (with_reducible refine (IH.out k1 (by have := hkq.out; omega) x.f0 x.f1 x.f2 B3 d3 x.f3 B4 d4 x.f4 (a1 + 1) 0 _ (Kd.C_below HI3.out HB2.out.B) n3 (Kd.C_below HI4.out HB2.out.B) n4 HFE.out).mono ?_); rintro e w5 ⟨rfl, hb5⟩; have HB5 := Aside0.mk hb5; clear hb5))
                    go_roundg k1
                    case measure => omega
                    case rel => exact ⟨i + 1, by go_num, ⟨by have := hkq.out; omega⟩, HL4, ⟨c5⟩, ⟨HB2.out.step HB5.out⟩, ⟨Nat.lt_of_lt_of_le hsz2 HB5.out.size, fun _ => by rw [← HNXT.out]; exact HM4.out.step HB5.out⟩⟩
                  · rw [if_neg he1] at hl4
                    injection hl4 with hl4
                    subst hl4
                    have he1b : (e1 == 0) = false := by simpa using he1
                    have he1c : (e1 != 0) = true := by simpa using he1
                    go_wp2_with (first
                      | (go_at_call 54; (with_reducible refine (utf_Valid.calls k1 ky true _ HV.out).mono ?_); rintro e w3 ⟨rfl, hb3⟩; have b8 := blk_below (blk_new wr (.cells #[.int .i64 x.f0, .int .i64 x.f1, .string x.f2, .slice B3 x.f3.length d3, .slice B4 x.f4.length d4] nodeT)) hb3; have hb03 := below_then (below_alloc (Below.refl wr.heap.size wr) (.cells #[.int .i64 x.f0, .int .i64 x.f1, .string x.f2, .slice B3 x.f3.length d3, .slice B4 x.f4.length d4] nodeT)) (below_alloc (Below.refl wr.heap.size wr) (.cells #[.int .i64 x.f0, .int .i64 x.f1, .string x.f2, .slice B3 x.f3.length d3, .slice B4 x.f4.length d4] nodeT)).size hb3; have hM3 := HM6.out.step hb03; have hlook := hM3.look ky hszA.out; rw [HATT.out] at hlook; obtain ⟨W2, hupd, hM4, hg4⟩ := hM3.put HNN.out ky hszA.out 1; have hlook2 := hM4.look ky hszA.out; rw [upd_same] at hlook2; have b82 := blk_grown b8 hg4 (fun e => by injection e with e; have := hM.out.1; omega); have HB2 := Aside0.mk ((hB.out.step hb03).grown hg4 (by simp only [List.length_singleton]; omega)); have HM4 := Aside0.mk hM4; have hsz2 : w1.heap.size < W2.heap.size := Nat.lt_of_lt_of_le hM3.lt hg4.size; have q0 := blk_cell b82 0; have q1 := blk_cell b82 1; have q2 := blk_cell b82 2; have q3 := blk_cell b82 3; have q4 := blk_cell b82 4; simp only [List.getElem?_toArray, List.getElem?_cons_zero, List.getElem?_cons_succ] at q0 q1 q2 q3 q4; clear b8 b82 hb3 hM3 hM4 hg4 hb03)
                      | (go_at_call 66; (with_reducible refine (IH.out k1 (by have := hkq.out; omega) x.f0 x.f1 x.f2 B3 d3 x.f3 B4 d4 x.f4 (a1 + 1) e1 _ (Kd.C_below HI3.out HB2.out.B) n3 (Kd.C_below HI4.out HB2.out.B) n4 HFE.out).mono ?_); rintro e w5 ⟨rfl, hb5⟩; have HB5 := Aside0.mk hb5; clear hb5))
                    go_ret
                    exact ⟨rfl, below_then HB2.out.B HB2.out.B.size HB5.out⟩
            · cases hpre
          · have c6b : (a0_0 == 6) = false := by simpa using c6
            unfold check_pre at hpre
            rw [if_neg c6] at hpre
            injection hpre with hpre
            subst hpre
            rw [if_pos rfl] at hl3
            clear up
            obtain ⟨e1, hfe, hl4⟩ := Option.bind_eq_some_iff.1 hl3
            have HFE := Aside0.mk hfe
            have HBA := Aside0.mk (below_alloc hB.out.B (.cells #[.int .i64 x.f0, .int .i64 x.f1, .string x.f2, .slice B3 x.f3.length d3, .slice B4 x.f4.length d4] nodeT))
            have C6 := Aside0.mk c6
            clear hl3 hfe c6
            by_cases he1 : e1 = 0
            · rw [if_pos he1] at hl4
              subst he1
              have HL4 := Aside0.mk hl4
              clear hl4
              go_wp2_with (go_at_call 66; (with_reducible refine (IH.out k1 (by have := hkq.out; omega) x.f0 x.f1 x.f2 B3 d3 x.f3 B4 d4 x.f4 (a1 + 1) 0 _ (Kd.C_below HI3.out HBA.out) n3 (Kd.C_below HI4.out HBA.out) n4 HFE.out).mono ?_); rintro e w5 ⟨rfl, hb5⟩; have HB5 := Aside0.mk hb5; clear hb5)
              go_roundg k1
              case measure => omega
              case rel => exact ⟨i + 1, by go_num, ⟨by have := hkq.out; omega⟩, HL4, ⟨c5⟩, ⟨(hB.out.step (below_alloc (Below.refl _ wr) (.cells #[.int .i64 x.f0, .int .i64 x.f1, .string x.f2, .slice B3 x.f3.length d3, .slice B4 x.f4.length d4] nodeT))).step HB5.out⟩, ⟨Nat.lt_of_lt_of_le (Nat.lt_of_lt_of_le hM.out.1 (below_alloc (Below.refl _ wr) (.cells #[.int .i64 x.f0, .int .i64 x.f1, .string x.f2, .slice B3 x.f3.length d3, .slice B4 x.f4.length d4] nodeT)).size) HB5.out.size, fun h => absurd h C6.out⟩⟩
            · rw [if_neg he1] at hl4
              injection hl4 with hl4
              subst hl4
              have he1b : (e1 == 0) = false := by simpa using he1
              have he1c : (e1 != 0) = true := by simpa using he1
              go_wp2_with (go_at_call 66; (with_reducible refine (IH.out k1 (by have := hkq.out; omega) x.f0 x.f1 x.f2 B3 d3 x.f3 B4 d4 x.f4 (a1 + 1) e1 _ (Kd.C_below HI3.out HBA.out) n3 (Kd.C_below HI4.out HBA.out) n4 HFE.out).mono ?_); rintro e w5 ⟨rfl, hb5⟩; have HB5 := Aside0.mk hb5; clear hb5)
              go_ret
              exact ⟨rfl, below_then HBA.out HBA.out.size HB5.out⟩
        · rw [dif_neg c5] at hl2
          injection hl2 with hl2
          subst hl2
          have c5b : decide ((i : Int) < (l0_4.length : Int)) = false := decide_eq_false (by omega)
          go_wp2
          go_ret
          exact ⟨rfl, hB.out.B⟩
  · rw [if_neg he0] at h
    injection h with h
    subst h
    have he0b : (e0 == 0) = false := by simpa using he0
    have he0c : (e0 != 0) = true := by simpa using he0
    go_enter Try.func66, Try.ntmps66
    go_wp2_with fail
    generalize w.alloc (.cells #[.int .i64 a0_0, .int .i64 a0_1, .string a0_2, .slice A0_3 l0_3.length c0_3, .slice A0_4 l0_4.length c0_4] nodeT) = W0 at HB0 ⊢
    go_wp2_with (go_at_call 113; (with_reducible refine (tree_plain.calls k a0_0 a0_1 a0_2 A0_3 c0_3 l0_3 A0_4 c0_4 l0_4 e0 W0 (Kd.C_below HR3.out HB0.out.B) hc0_3 (Kd.C_below HR4.out HB0.out.B) hc0_4 HP.out).mono ?_); rintro e w1 ⟨rfl, hb1⟩; have HB1 := Aside0.mk hb1; clear hb1)
    go_ret
    exact ⟨rfl, below_then HB0.out.B HB0.out.B.size HB1.out⟩
end Go.Proofs.Ytjdldlphfifggaa.X
end
section
namespace Go.Proofs.Ytjdldlphfifggaa.X
open Go.RowKit Go.Proofs.YtjdldlphfifggaaW.PrintWords Go.Proofs.YtjdldlphfifggaaW.PrintLast
set_option linter.unusedVariables false
set_option linter.unusedSimpArgs false
theorem evTo {α : Type} {g : Nat → Option α} {r r' : α} (e : r' = r) (h : Ev g r) : Ev g r' := e ▸ h
def valB (s : ByteArray) : Bool := decide (endOf s = s.size)
def ownP (a0 a1 : Int) (a2 : ByteArray) (K : List ByteArray) (L : List S25) : Prop :=
  (a0 = 1 ∧ a1 = 0 ∧ a2.toList = [] ∧ K.length = 0 ∧ L.length = 0) ∨ ((a0 = 2 ∨ a0 = 3) ∧ a2.toList = [] ∧ K.length = 0 ∧ L.length = 0) ∨ (a0 = 4 ∧ a1 = 0 ∧ K.length = 0 ∧ L.length = 0) ∨ (a0 = 5 ∧ a1 = 0 ∧ a2.toList = [] ∧ K.length = 0) ∨ (a0 = 6 ∧ a1 = 0 ∧ a2.toList = [])
instance (a0 a1 : Int) (a2 : ByteArray) (K : List ByteArray) (L : List S25) : Decidable (ownP a0 a1 a2 K L) := by unfold ownP; infer_instance
theorem own_eq (k : Nat) (a0 a1 : Int) (a2 : ByteArray) (K : List ByteArray) (L : List S25) : tree_own.f (k + 1) a0 a1 a2 K L = some (decide (ownP a0 a1 a2 K L)) := by
  have hK : ((K.length : Int) = 0) = (K.length = 0) := by apply propext; omega
  have hL : ((L.length : Int) = 0) = (L.length = 0) := by apply propext; omega
  have hKb : ((K.length : Int) == 0) = decide (K.length = 0) := by rw [Bool.eq_iff_iff]; simp
  have hLb : ((L.length : Int) == 0) = decide (L.length = 0) := by rw [Bool.eq_iff_iff]; simp
  have h2b : (a2.toList == ([] : List UInt8)) = decide (a2.toList = []) := by rw [Bool.eq_iff_iff]; simp
  unfold tree_own.f ownP
  simp only [hK, hL, hKb, hLb, h2b, tree_own.j0]
  by_cases e1 : a0 = 1
  · subst e1
    by_cases h1 : a1 = 0 <;> by_cases h2 : a2.toList = [] <;> by_cases h3 : K.length = 0 <;> simp [h1, h2, h3]
  by_cases e2 : a0 = 2
  · subst e2
    by_cases h2 : a2.toList = [] <;> by_cases h3 : K.length = 0 <;> simp [h2, h3]
  by_cases e3 : a0 = 3
  · subst e3
    by_cases h2 : a2.toList = [] <;> by_cases h3 : K.length = 0 <;> simp [h2, h3]
  by_cases e4 : a0 = 4
  · subst e4
    by_cases h1 : a1 = 0 <;> by_cases h3 : K.length = 0 <;> simp [h1, h3]
  by_cases e5 : a0 = 5
  · subst e5
    by_cases h1 : a1 = 0 <;> by_cases h2 : a2.toList = [] <;> simp [h1, h2]
  by_cases e6 : a0 = 6
  · subst e6
    by_cases h1 : a1 = 0 <;> simp [h1]
  simp [e1, e2, e3, e4, e5, e6]
def plainE (a0 a1 : Int) (a2 : ByteArray) (K : List ByteArray) (L : List S25) : Int :=
  if ¬ ownP a0 a1 a2 K L then 7 else if (a0 = 2 ∧ a1 ≠ 0 ∧ a1 ≠ 1) ∨ (a0 = 3 ∧ ¬ (-9007199254740991 ≤ a1 ∧ a1 ≤ 9007199254740991)) then 2 else if a0 = 4 ∧ valB a2 = false then 10 else if a0 = 6 ∧ K.length ≠ L.length then 1 else 0
theorem fits_eq (a : Int) : num_Fits.f a = some (decide (-9007199254740991 ≤ a ∧ a ≤ 9007199254740991)) := by
  unfold num_Fits.f
  by_cases h : a ≥ -9007199254740991
  · have h' : -9007199254740991 ≤ a := h
    rw [if_pos h]; simp [h']
  · have h' : ¬ (-9007199254740991 ≤ a) := h
    rw [if_neg h]; simp [h']
theorem plain_ev (a0 a1 : Int) (a2 : ByteArray) (K : List ByteArray) (L : List S25) (hs : a2.size ≤ 140737488351232) : Ev (fun k => tree_plain.f k a0 a1 a2 K L) (plainE a0 a1 a2 K L) := by
  have hown : Ev (fun k => tree_own.f k a0 a1 a2 K L) (decide (ownP a0 a1 a2 K L)) := Ev.step (f := fun k => some _) (fun k => own_eq k a0 a1 a2 K L) (Ev.now _)
  have j2 : ∀ x7 : Bool, Ev (fun k => tree_plain.j2 k x7 a0 a1 a2 K L) (if x7 = true then 10 else if a0 = 6 ∧ K.length ≠ L.length then 1 else 0) := fun x7 => by
    refine Ev.step (fun k => by rw [tree_plain.j2]) ?_
    by_cases h : x7 = true
    · exact evTo (if_pos h) (evPos h (Ev.now _))
    · refine evTo (if_neg h) (evNeg h ?_)
      by_cases h6 : a0 = 6
      · refine evPos h6 ?_
        by_cases hl : K.length = L.length
        · exact evTo (if_neg (fun h => h.2 hl)) (evPos (by omega) (Ev.now _))
        · exact evTo (if_pos ⟨h6, hl⟩) (evNeg (by omega) (Ev.now _))
      · exact evTo (if_neg (fun h => h6 h.1)) (evNeg h6 (Ev.now _))
  have j1 : ∀ x7 : Bool, Ev (fun k => tree_plain.j1 k x7 a0 a1 a2 K L) (if x7 = true then 2 else if a0 = 4 ∧ valB a2 = false then 10 else if a0 = 6 ∧ K.length ≠ L.length then 1 else 0) := fun x7 => by
    refine Ev.step (fun k => by rw [tree_plain.j1]) ?_
    by_cases h : x7 = true
    · exact evTo (if_pos h) (evPos h (Ev.now _))
    · refine evTo (if_neg h) (evNeg h ?_)
      by_cases h4 : a0 = 4
      · refine evPos h4 (Ev.bind (f := fun k t => tree_plain.j2 k (!t) a0 a1 a2 K L) (Valid_ev a2 hs) ?_)
        have := j2 (!valB a2)
        cases hv : valB a2 with
        | true =>
          rw [hv] at this
          rw [show decide (endOf a2 = a2.size) = true from hv]
          exact evTo (if_neg (by simp)) (evTo (if_neg (by simp)).symm this)
        | false =>
          rw [hv] at this
          rw [show decide (endOf a2 = a2.size) = false from hv]
          exact evTo (if_pos ⟨h4, rfl⟩) (evTo (if_pos rfl).symm this)
      · exact evTo (if_neg (fun h => h4 h.1)) (evNeg h4 (evTo (if_neg (by simp)).symm (j2 false)))
  have j0 : ∀ x7 : Bool, Ev (fun k => tree_plain.j0 k x7 a0 a1 a2 K L) (if x7 = true ∨ (a0 = 3 ∧ ¬ (-9007199254740991 ≤ a1 ∧ a1 ≤ 9007199254740991)) then 2 else if a0 = 4 ∧ valB a2 = false then 10 else if a0 = 6 ∧ K.length ≠ L.length then 1 else 0) := fun x7 => by
    refine Ev.step (fun k => by rw [tree_plain.j0]) ?_
    by_cases h : x7 = true
    · exact evTo (if_pos (.inl h)) (evPos h (evTo (if_pos h).symm (j1 x7)))
    · refine evNeg h ?_
      by_cases h3 : a0 = 3
      · refine evPos h3 ?_
        simp only [fits_eq, Option.bind_some]
        by_cases hf : -9007199254740991 ≤ a1 ∧ a1 ≤ 9007199254740991
        · rw [decide_eq_true hf]
          exact evTo (if_neg (fun h' => h'.elim h (fun h => h.2 hf))) (evTo (if_neg (by simp)).symm (j1 false))
        · rw [decide_eq_false hf]
          exact evTo (if_pos (.inr ⟨h3, hf⟩)) (evTo (if_pos rfl).symm (j1 true))
      · exact evTo (if_neg (fun h' => h'.elim h (fun h => h3 h.1))) (evNeg h3 (evTo (if_neg (by simp)).symm (j1 false)))
  unfold tree_plain.f plainE
  refine Ev.bind (f := fun k t => _) hown ?_
  by_cases ho : ownP a0 a1 a2 K L
  · refine evTo (if_neg (fun h => h ho)) (evPos (decide_eq_true ho) ?_)
    by_cases h2 : a0 = 2
    · refine evPos h2 ?_
      have h3 : ¬ a0 = 3 := by omega
      have jf := evTo (if_neg (fun h => h.elim (by simp) (fun h => h3 h.1))).symm (j0 false)
      have jt := evTo (if_pos (.inl rfl)).symm (j0 true)
      by_cases h10 : a1 = 0
      · exact evTo (if_neg (fun h => h.elim (fun h => h.2.1 h10) (fun h => h3 h.1))) (evPos h10 jf)
      · refine evNeg h10 ?_
        by_cases h11 : a1 = 1
        · rw [show (a1 != 1) = false by simp [h11]]
          exact evTo (if_neg (fun h => h.elim (fun h => h.2.2 h11) (fun h => h3 h.1))) jf
        · rw [show (a1 != 1) = true by simp [h11]]
          exact evTo (if_pos (.inl ⟨h2, h10, h11⟩)) jt
    · refine evNeg h2 ?_
      by_cases h3 : a0 = 3 ∧ ¬ (-9007199254740991 ≤ a1 ∧ a1 ≤ 9007199254740991)
      · exact evTo (if_pos (.inr h3)) (evTo (if_pos (.inr h3)).symm (j0 false))
      · exact evTo (if_neg (fun h => h.elim (fun h => h2 h.1) h3)) (evTo (if_neg (fun h => h.elim (by simp) h3)).symm (j0 false))
  · exact evTo (if_pos ho) (evNeg (by simp [ho]) (Ev.now _))
def preE (a0 : Int) (K : List ByteArray) (i : Nat) : Int := if a0 = 6 then (if valB (K.getD i ByteArray.empty) = true then (if twice K i = true then 9 else 0) else 10) else 0
mutual
def chk : S25 → Int → Int
  | ⟨a, b, s, K, L⟩, d => if d > 64 then 13 else (if plainE a b s K L = 0 then chkL a K L d 0 else plainE a b s K L)
def chkL (a : Int) (K : List ByteArray) : List S25 → Int → Nat → Int
  | [], _, _ => 0
  | x :: r, d, i => if preE a K i = 0 then (if chk x (d + 1) = 0 then chkL a K r d (i + 1) else chk x (d + 1)) else preE a K i
end
theorem chk_eq (n : S25) (d : Int) : chk n d = if d > 64 then 13 else (if plainE n.f0 n.f1 n.f2 n.f3 n.f4 = 0 then chkL n.f0 n.f3 n.f4 d 0 else plainE n.f0 n.f1 n.f2 n.f3 n.f4) := by
  cases n
  rw [chk]
theorem pre_ev (a0 : Int) (K : List ByteArray) (i : Nat) (h : a0 = 6 → i < K.length ∧ (K.getD i ByteArray.empty).size ≤ 140737488351232) : Ev (fun k => check_pre k a0 K i) (preE a0 K i) := by
  unfold check_pre preE
  by_cases h6 : a0 = 6
  · refine evTo (if_pos h6) (evPos h6 (evPos (h h6) (Ev.bind (f := fun k v => if v = true then (if twice K i = true then some 9 else some 0) else some 10) (Valid_ev _ (h h6).2) ?_)))
    by_cases hv : valB (K.getD i ByteArray.empty) = true
    · refine evTo (if_pos hv) (evPos hv ?_)
      by_cases ht : twice K i = true
      · exact evTo (if_pos ht) (evPos ht (Ev.now _))
      · exact evTo (if_neg ht) (evNeg ht (Ev.now _))
    · exact evTo (if_neg hv) (evNeg hv (Ev.now _))
  · exact evTo (if_neg h6) (evNeg h6 (Ev.now _))
theorem plainE_len {a0 a1 : Int} {a2 : ByteArray} {K : List ByteArray} {L : List S25} (h : plainE a0 a1 a2 K L = 0) (h6 : a0 = 6) : K.length = L.length := by
  unfold plainE at h
  split at h
  · cases h
  split at h
  · cases h
  split at h
  · cases h
  split at h
  · cases h
  rename_i hh
  by_cases e : K.length = L.length
  · exact e
  · exact absurd ⟨h6, e⟩ hh
def Sm (n : S25) : Prop := ∀ x ∈ nodes n, x.f2.size ≤ 140737488351232 ∧ ∀ k ∈ x.f3, k.size ≤ 140737488351232
theorem Sm.self {n : S25} (h : Sm n) : n.f2.size ≤ 140737488351232 ∧ ∀ k ∈ n.f3, k.size ≤ 140737488351232 := h n (by rw [nodes_eq]; exact List.mem_cons_self)
theorem nodesL_sub : ∀ {l : List S25} {y : S25}, y ∈ l → ∀ x ∈ nodes y, x ∈ nodesL l
  | z :: r, y, h, x, hx => by
    rw [nodesL, List.mem_append]
    rcases List.mem_cons.1 h with rfl | h
    · exact .inl hx
    · exact .inr (nodesL_sub h x hx)
theorem Sm.child {n y : S25} (h : Sm n) (hy : y ∈ n.f4) : Sm y := fun x hx => h x (by rw [nodes_eq]; exact List.mem_cons_of_mem _ (nodesL_sub hy x hx))
theorem Sm.mk_ {n : S25} (h1 : n.f2.size ≤ 140737488351232) (h2 : ∀ k ∈ n.f3, k.size ≤ 140737488351232) (h3 : ∀ y ∈ n.f4, Sm y) : Sm n := by
  intro x hx
  rw [nodes_eq] at hx
  rcases List.mem_cons.1 hx with rfl | hx
  · exact ⟨h1, h2⟩
  · have : ∀ (l : List S25), (∀ y ∈ l, Sm y) → ∀ x ∈ nodesL l, x.f2.size ≤ 140737488351232 ∧ ∀ k ∈ x.f3, k.size ≤ 140737488351232 := by
      intro l
      induction l with
      | nil => intro _ x hx; simp [nodesL] at hx
      | cons z r ih =>
        intro hl x hx
        rw [nodesL, List.mem_append] at hx
        rcases hx with hx | hx
        · exact hl z List.mem_cons_self x hx
        · exact ih (fun y hy => hl y (List.mem_cons_of_mem _ hy)) x hx
    exact this n.f4 h3 x hx
theorem Sm.of_bk : ∀ (m : Nat) (n : S25), bk n ≤ m → m ≤ 140737488351232 → Sm n := by
  intro m
  induction m using Nat.strongRecOn with
  | _ m ih =>
    intro n hb hm
    have hbk := bk_eq n
    refine Sm.mk_ (by omega) (fun k hk => by have := bkK_mem hk; omega) (fun y hy => ?_)
    have := bkL_mem hy
    exact ih (bk y) (by omega) y (Nat.le_refl _) (by omega)
theorem check_ev : ∀ (m : Nat) (n : S25) (d : Int), bk n ≤ m → Sm n → 0 ≤ d → Ev (fun k => tree_check.f k n.f0 n.f1 n.f2 n.f3 n.f4 d) (chk n d) := by
  intro m
  induction m using Nat.strongRecOn with
  | _ m ih =>
    intro n d hb hsm hd
    have hbk := bk_eq n
    have hKl := bkK_len n.f3
    rw [chk_eq]
    refine Ev.step (fun k => by rw [tree_check.f]) (evNeg (by omega) ?_)
    by_cases c : d > 64
    · exact evTo (if_pos c) (evPos c (Ev.now _))
    · refine evTo (if_neg c) (evNeg c (Ev.bind (f := fun k e => if e = 0 then tree_check.l k n.f0 n.f3 n.f4 d 0 else some e) (plain_ev _ _ _ _ _ hsm.self.1) ?_))
      by_cases hp : plainE n.f0 n.f1 n.f2 n.f3 n.f4 = 0
      · refine evTo (if_pos hp) (evPos hp ?_)
        have go : ∀ (L' : List S25) (i : Nat), n.f4.drop i = L' → Ev (fun k => tree_check.l k n.f0 n.f3 n.f4 d i) (chkL n.f0 n.f3 L' d i) := by
          intro L'
          induction L' with
          | nil =>
            intro i hi
            have : n.f4.length ≤ i := List.drop_eq_nil_iff.1 hi
            rw [chkL]
            refine Ev.step (f := fun _ => some 0) (fun k => ?_) (Ev.now _)
            rw [tree_check.l, dif_neg (by omega)]
          | cons x r ihL =>
            intro i hi
            have hil : i < n.f4.length := by
              by_cases h : i < n.f4.length
              · exact h
              · rw [List.drop_eq_nil_of_le (by omega)] at hi; cases hi
            rw [List.drop_eq_getElem_cons hil] at hi
            injection hi with hx hr
            rw [chkL]
            have hbx := bkL_mem (List.getElem_mem hil)
            have hlen := bkL_len n.f4
            have hpre : n.f0 = 6 → i < n.f3.length ∧ (n.f3.getD i ByteArray.empty).size ≤ 140737488351232 := fun h6 => by
              have hl := plainE_len hp h6
              have hi3 : i < n.f3.length := by omega
              exact ⟨hi3, by rw [List.getD_eq_getElem?_getD, List.getElem?_eq_getElem hi3]; exact hsm.self.2 _ (List.getElem_mem hi3)⟩
            refine Ev.step (fun k => by rw [tree_check.l, dif_pos hil]) (Ev.bind (f := fun k p => if p = 0 then (tree_check.f k n.f4[i].f0 n.f4[i].f1 n.f4[i].f2 n.f4[i].f3 n.f4[i].f4 (d + 1)).bind fun e => if e = 0 then tree_check.l k n.f0 n.f3 n.f4 d (i + 1) else some e else some p) (pre_ev _ _ _ hpre) ?_)
            by_cases hq : preE n.f0 n.f3 i = 0
            · refine evTo (if_pos hq) (evPos hq (Ev.bind (f := fun k e => if e = 0 then tree_check.l k n.f0 n.f3 n.f4 d (i + 1) else some e) (ih (bk n.f4[i]) (by omega) n.f4[i] (d + 1) (Nat.le_refl _) (hsm.child (List.getElem_mem hil)) (by omega)) ?_))
              rw [hx]
              by_cases he : chk x (d + 1) = 0
              · exact evTo (if_pos he) (evPos he (ihL (i + 1) hr))
              · exact evTo (if_neg he) (evNeg he (Ev.now _))
            · exact evTo (if_neg hq) (evNeg hq (Ev.now _))
        exact go n.f4 0 rfl
      · exact evTo (if_neg hp) (evNeg hp (Ev.now _))
end Go.Proofs.Ytjdldlphfifggaa.X
end
section
namespace Go.Proofs.Ytjdldlphfifggaa.X
open Go.RowKit Go.Proofs.YtjdldlphfifggaaW.PrintWords Go.Proofs.YtjdldlphfifggaaW.PrintLast Go.Proofs.YtjdldlphfifggaaW.PrintMore
attribute [local go_sem] Go.Instr.field Go.asAgg max2_int min2_int max_two min_two max_three min_three max_four min_four
set_option linter.unusedVariables false
set_option linter.unusedSimpArgs false
def tree_Check.f (k : Nat) (a0_0 : Int) (a0_1 : Int) (a0_2 : ByteArray) (l0_3 : List ByteArray) (l0_4 : List (S25)) : Option (Int) := (tree_check.f k a0_0 a0_1 a0_2 l0_3 l0_4 1).bind fun t420 => (some t420)
theorem tree_Check.mono : ∀ a0 a1 a2 a3 a4 k, LeO (tree_Check.f k a0 a1 a2 a3 a4) (tree_Check.f (k + 1) a0 a1 a2 a3 a4) := by
  intro a0 a1 a2 a3 a4 k
  unfold tree_Check.f
  repeat' first
      | (with_reducible exact tree_check.mono _ _ _ _ _ _ _)
      | (with_reducible exact LeO.refl _)
      | (with_reducible exact LeO.none _)
      | (with_reducible refine LeO.ite ?_ ?_)
      | (with_reducible refine LeO.bind ?_ (fun _ => ?_))
      | exact tree_check.mono _ _ _ _ _ _ _
      | exact LeO.none _
      | refine LeO.ite ?_ ?_
      | refine LeO.bind ?_ (fun _ => ?_)
set_option maxHeartbeats 8000000 in
set_option maxRecDepth 100000 in
theorem tree_Check.calls (k : Nat) (a0_0 : Int) (a0_1 : Int) (a0_2 : ByteArray) (A0_3 : Option Addr) (c0_3 : Nat) (l0_3 : List ByteArray) (A0_4 : Option Addr) (c0_4 : Nat) (l0_4 : List (S25)) (r : Int) (w : World) (hr0_3 : Kd.C Kd.string w A0_3 l0_3.length l0_3) (hc0_3 : l0_3.length ≤ c0_3) (hr0_4 : Kd.C k25 w A0_4 l0_4.length l0_4) (hc0_4 : l0_4.length ≤ c0_4) (h : tree_Check.f k a0_0 a0_1 a0_2 l0_3 l0_4 = some r) :
    Calls Try.prog 18 #[.agg #[.int .i64 a0_0, .int .i64 a0_1, .string a0_2, .slice A0_3 l0_3.length c0_3, .slice A0_4 l0_4.length c0_4]] w fun e w' => e = .returned (.int .i64 r) ∧ Below w.heap.size w w' := by
  have hu25 := Try.underlying25
  have HR0_3 := Aside0.mk hr0_3
  have HC0_3 := Aside0.mk hc0_3
  clear hr0_3 hc0_3
  have HR0_4 := Aside0.mk hr0_4
  have HC0_4 := Aside0.mk hc0_4
  clear hr0_4 hc0_4
  have HB := Aside0.mk (Below.refl w.heap.size w)
  have H : ((tree_check.f k a0_0 a0_1 a0_2 l0_3 l0_4 1).bind fun t420 => (some t420)) = some r := h
  clear h
  replace H := Option.bind_eq_some_iff.mp H
  obtain ⟨t420, A20, H⟩ := H
  replace H : (some t420) = some r := H
  have A2 := Aside0.mk A20
  clear A20
  obtain rfl := Option.some.inj H
  have hu120 := Try.underlying120
  go_enter Try.func18, Try.ntmps18
  go_wp2_with (first | ((with_reducible refine gate_dst (N := 1) rfl ?_); refine box_event ?hg (N := 1) ?hd (cs := #[.int .i64 a0_0, .int .i64 a0_1, .string a0_2, .slice A0_3 l0_3.length c0_3, .slice A0_4 l0_4.length c0_4]) (t := 25) ?hr ?_; (case hd => rfl); (case hg => rfl); (case hr => first | (go_simp; done) | (go_simp; rfl)); intro gb419 hg w3 hbox hb; have n0_ := Aside0.mk (below_step (by repeat (first | (with_reducible first | exact HB.out | apply below_alloc | apply pw_below_drewN | apply below_drew1) | exact HB.out)) hb); have n1_ := Aside0.mk (hbox); have n2_ := Aside0.mk ((by rw [hg]; exact (below_size (by repeat (first | (with_reducible first | exact HB.out | apply below_alloc | apply pw_below_drewN | apply below_drew1) | exact HB.out))) : w.heap.size ≤ gb419)); have n3_ := Aside0.mk ((by rw [hg]; exact (below_size (by repeat (first | (with_reducible first | exact HB.out | apply below_alloc | apply pw_below_drewN | apply below_drew1) | exact HB.out))) : w.heap.size ≤ gb419)); clear HB; have HB := n0_; have BK419 := n1_; have GW419 := n2_; have GE419 := n3_; clear n0_ n1_ n2_ n3_; clear hb hbox hg; have hcz4_0 : w3.cell? ⟨gb419, 0, none⟩ = some (.int .i64 a0_0) := (blk_cell BK419.out 0).trans rfl; have hcz4_1 : w3.cell? ⟨gb419, 1, none⟩ = some (.int .i64 a0_1) := (blk_cell BK419.out 1).trans rfl; have hcz4_2 : w3.cell? ⟨gb419, 2, none⟩ = some (.string a0_2) := (blk_cell BK419.out 2).trans rfl; have hcz4_3 : w3.cell? ⟨gb419, 3, none⟩ = some (.slice A0_3 l0_3.length c0_3) := (blk_cell BK419.out 3).trans rfl; have hcz4_4 : w3.cell? ⟨gb419, 4, none⟩ = some (.slice A0_4 l0_4.length c0_4) := (blk_cell BK419.out 4).trans rfl; have hfz4_0 := blk_frozen BK419.out 0; have hfz4_1 := blk_frozen BK419.out 1; have hfz4_2 := blk_frozen BK419.out 2; have hfz4_3 := blk_frozen BK419.out 3; have hfz4_4 := blk_frozen BK419.out 4) | ((with_reducible refine gate_callee (f := 66) rfl ?_); refine goesL_ (some 4) rfl rfl Try.func66 (by kernel_rfl) rfl #[.agg #[.int .i64 a0_0, .int .i64 a0_1, .string a0_2, .slice A0_3 l0_3.length c0_3, .slice A0_4 l0_4.length c0_4], .int .i64 1] rfl (by (try simp only [List.map_toArray, List.map_cons, List.map_nil]); first | done | rfl | (simp only [List.length_drop, List.length_take]; rfl)) ?_; (with_reducible refine (tree_check.calls k a0_0 a0_1 a0_2 _ _ l0_3 _ _ l0_4 1 t420 _ ?side1 ?side2 ?side3 ?side4 A2.out).mono ?_); (case side1 => repeat (first | exact (Kd.C_below HR0_3.out HB.out) | (with_reducible refine Kd.C_alloc ?_ _) | (with_reducible refine Kd.C_drewN ?_ _) | (with_reducible refine Kd.C_drew ?_))); (case side2 => exact HC0_3.out); (case side3 => repeat (first | exact (Kd.C_below HR0_4.out HB.out) | (with_reducible refine Kd.C_alloc ?_ _) | (with_reducible refine Kd.C_drewN ?_ _) | (with_reducible refine Kd.C_drew ?_))); (case side4 => exact HC0_4.out); rintro e w5 ⟨rfl, hb⟩; refine ⟨_, rfl, ?_⟩; have n0_ := Aside0.mk (blk_below (g := gb419) (o := .cells #[.int .i64 a0_0, .int .i64 a0_1, .string a0_2, .slice A0_3 l0_3.length c0_3, .slice A0_4 l0_4.length c0_4] 25 (0, 0)) (by (with_reducible repeat (first | refine blk_drewN ?_ _ | refine blk_drew ?_ | refine blk_alloc ?_ _)); exact BK419.out) hb); have n1_ := Aside0.mk (below_step (by repeat (first | (with_reducible first | exact HB.out | apply below_alloc | apply pw_below_drewN | apply below_drew1 | refine below_set ?_ GE419.out) | exact HB.out)) hb); clear BK419; clear HB; have BK419 := n0_; have HB := n1_; clear n0_ n1_; (try clear hb); (try clear hb2); (try clear hk); (try clear hi)))
  go_ret
  exact ⟨by first | rfl | (simp [errW_none, errW_some] <;> rfl) | (simp [*, errW_none, errW_some] <;> rfl), by repeat (first | (with_reducible first | exact HB.out | apply below_alloc | apply pw_below_drewN | apply below_drew1 | refine below_set ?_ GE419.out) | exact HB.out)⟩
end Go.Proofs.Ytjdldlphfifggaa.X
end
section
namespace Go.Proofs.Ytjdldlphfifggaa.X
open Go.RowKit Go.Proofs.YtjdldlphfifggaaW.PrintWords Go.Proofs.YtjdldlphfifggaaW.PrintLast Go.Proofs.YtjdldlphfifggaaW.PrintMore
attribute [local go_sem] max2_int min2_int max_two min_two max_three min_three max_four min_four
set_option linter.unusedVariables false
set_option linter.unusedSimpArgs false
def field_Text.f (k : Nat) (a0_0 : Int) (a0_1 : Int) (a0_2 : ByteArray) (l0_3 : List ByteArray) (l0_4 : List (S25)) (a1 : ByteArray) : Option (ByteArray × Bool) := (tree_Get.f k a0_0 a0_1 a0_2 l0_3 l0_4 a1).bind fun bt715 => (if bt715.2.2.2.2.2 = true then (if bt715.1 = 4 then (some (bt715.2.2.1, true)) else (some ((⟨#[]⟩ : ByteArray), false))) else (some ((⟨#[]⟩ : ByteArray), false)))
theorem field_Text.mono : ∀ a0 a1 a2 a3 a4 a5 k, LeO (field_Text.f k a0 a1 a2 a3 a4 a5) (field_Text.f (k + 1) a0 a1 a2 a3 a4 a5) := by
  intro a0 a1 a2 a3 a4 a5 k
  unfold field_Text.f
  repeat' first
      | (with_reducible exact tree_Get.mono _ _ _ _ _ _ _)
      | (with_reducible exact LeO.refl _)
      | (with_reducible exact LeO.none _)
      | (with_reducible refine LeO.ite ?_ ?_)
      | (with_reducible refine LeO.bind ?_ (fun _ => ?_))
      | exact tree_Get.mono _ _ _ _ _ _ _
      | exact LeO.none _
      | refine LeO.ite ?_ ?_
      | refine LeO.bind ?_ (fun _ => ?_)
set_option maxHeartbeats 8000000 in
set_option maxRecDepth 100000 in
theorem field_Text.calls (k : Nat) (a0_0 : Int) (a0_1 : Int) (a0_2 : ByteArray) (A0_3 : Option Addr) (c0_3 : Nat) (l0_3 : List ByteArray) (A0_4 : Option Addr) (c0_4 : Nat) (l0_4 : List (S25)) (a1 : ByteArray) (r1 : ByteArray) (r2 : Bool) (w : World) (hr0_3 : Kd.C Kd.string w A0_3 l0_3.length l0_3) (hc0_3 : l0_3.length ≤ c0_3) (hr0_4 : Kd.C k25 w A0_4 l0_4.length l0_4) (hc0_4 : l0_4.length ≤ c0_4) (h : field_Text.f k a0_0 a0_1 a0_2 l0_3 l0_4 a1 = some (r1, r2)) :
    Calls Try.prog 90 #[.agg #[.int .i64 a0_0, .int .i64 a0_1, .string a0_2, .slice A0_3 l0_3.length c0_3, .slice A0_4 l0_4.length c0_4], .string a1] w fun e w' => e = .returned (.tuple #[.string r1, .bool r2]) ∧ Below w.heap.size w w' := by
  have hu25 := Try.underlying25
  have HR0_3 := Aside0.mk hr0_3
  have HC0_3 := Aside0.mk hc0_3
  clear hr0_3 hc0_3
  have HR0_4 := Aside0.mk hr0_4
  have HC0_4 := Aside0.mk hc0_4
  clear hr0_4 hc0_4
  have HB := Aside0.mk (Below.refl w.heap.size w)
  have H : ((tree_Get.f k a0_0 a0_1 a0_2 l0_3 l0_4 a1).bind fun bt715 => (if bt715.2.2.2.2.2 = true then (if bt715.1 = 4 then (some (bt715.2.2.1, true)) else (some ((⟨#[]⟩ : ByteArray), false))) else (some ((⟨#[]⟩ : ByteArray), false)))) = some (r1, r2) := h
  clear h
  replace H := Option.bind_eq_some_iff.mp H
  obtain ⟨⟨t715, t716, t717, t718, t721, t724⟩, A30, H⟩ := H
  replace H : (if t724 = true then (if t715 = 4 then (some (t717, true)) else (some ((⟨#[]⟩ : ByteArray), false))) else (some ((⟨#[]⟩ : ByteArray), false))) = some (r1, r2) := H
  have A3 := Aside0.mk A30
  clear A30
  by_cases c4 : t724 = true
  · subst c4
    have H1 : (if t715 = 4 then (some (t717, true)) else (some ((⟨#[]⟩ : ByteArray), false))) = some (r1, r2) := by rw [if_pos rfl] at H; exact H
    clear H
    have H := H1
    clear H1
    by_cases c5 : t715 = 4
    · rw [if_pos c5] at H
      have c5b0 : (t715 == 4) = true := beq_iff_eq.mpr c5
      have c5b1 : (t715 != 4) = false := bne_eq_false_iff_eq.mpr c5
      clear c5
      simp only [Option.some.injEq, Prod.mk.injEq] at H
      obtain ⟨rfl, rfl⟩ := H
      go_enter Try.func90, Try.ntmps90
      go_wp2_with (first | ((with_reducible refine gate_dst (N := 2) rfl ?_); refine box_event ?hg (N := 2) ?hd (cs := #[.int .i64 a0_0, .int .i64 a0_1, .string a0_2, .slice A0_3 l0_3.length c0_3, .slice A0_4 l0_4.length c0_4]) (t := 25) ?hr ?_; (case hd => rfl); (case hg => rfl); (case hr => first | (go_simp; done) | (go_simp; rfl)); intro gb714 hg w6 hbox hb; have n0_ := Aside0.mk (below_step (by repeat (first | (with_reducible first | exact HB.out | apply below_alloc | apply pw_below_drewN | apply below_drew1) | exact HB.out)) hb); have n1_ := Aside0.mk (hbox); have n2_ := Aside0.mk ((by rw [hg]; exact (below_size (by repeat (first | (with_reducible first | exact HB.out | apply below_alloc | apply pw_below_drewN | apply below_drew1) | exact HB.out))) : w.heap.size ≤ gb714)); have n3_ := Aside0.mk ((by rw [hg]; exact (below_size (by repeat (first | (with_reducible first | exact HB.out | apply below_alloc | apply pw_below_drewN | apply below_drew1) | exact HB.out))) : w.heap.size ≤ gb714)); clear HB; have HB := n0_; have BK714 := n1_; have GW714 := n2_; have GE714 := n3_; clear n0_ n1_ n2_ n3_; clear hb hbox hg; have hcz7_0 : w6.cell? ⟨gb714, 0, none⟩ = some (.int .i64 a0_0) := (blk_cell BK714.out 0).trans rfl; have hcz7_1 : w6.cell? ⟨gb714, 1, none⟩ = some (.int .i64 a0_1) := (blk_cell BK714.out 1).trans rfl; have hcz7_2 : w6.cell? ⟨gb714, 2, none⟩ = some (.string a0_2) := (blk_cell BK714.out 2).trans rfl; have hcz7_3 : w6.cell? ⟨gb714, 3, none⟩ = some (.slice A0_3 l0_3.length c0_3) := (blk_cell BK714.out 3).trans rfl; have hcz7_4 : w6.cell? ⟨gb714, 4, none⟩ = some (.slice A0_4 l0_4.length c0_4) := (blk_cell BK714.out 4).trans rfl; have hfz7_0 := blk_frozen BK714.out 0; have hfz7_1 := blk_frozen BK714.out 1; have hfz7_2 := blk_frozen BK714.out 2; have hfz7_3 := blk_frozen BK714.out 3; have hfz7_4 := blk_frozen BK714.out 4) | ((with_reducible refine gate_callee (f := 30) rfl ?_); refine goesL_ (some 11) rfl rfl Try.func30 (by kernel_rfl) rfl #[.agg #[.int .i64 a0_0, .int .i64 a0_1, .string a0_2, .slice A0_3 l0_3.length c0_3, .slice A0_4 l0_4.length c0_4], .string a1] rfl (by (try simp only [List.map_toArray, List.map_cons, List.map_nil]); first | done | rfl | (simp only [List.length_drop, List.length_take]; rfl)) ?_; (with_reducible refine (tree_Get.calls k a0_0 a0_1 a0_2 _ _ l0_3 (fun k_ => k_ < w.heap.size) _ _ l0_4 a1 t715 t716 t717 t718 t721 true _ ?side1 ?side2 ?side3 A3.out).mono ?_); (case side1 => repeat (first | exact (Kd.C_below HR0_3.out HB.out) | (with_reducible refine Kd.C_alloc ?_ _) | (with_reducible refine Kd.C_drewN ?_ _) | (with_reducible refine Kd.C_drew ?_))); (case side2 => exact HC0_3.out); (case side3 => exact Kd.V_mk HC0_4.out (Kd.F_below (Kd.C_F k25_heap HR0_4.out) (by repeat (first | (with_reducible first | exact HB.out | apply below_alloc | apply pw_below_drewN | apply below_drew1 | refine below_set ?_ GE714.out) | exact HB.out)))); rintro e w8 ⟨v719, v722, rfl, ho0, ho1, hb⟩; refine ⟨_, rfl, ?_⟩; have n0_ := Aside0.mk (Kd.V_lower (Kd.V_mono (ok' := fun k_ => k_ ≠ gb714) ho0 (fun k_ hk_ => Or.elim hk_ (fun hs_ => fun e_ => Nat.not_le.2 hs_ (by rw [e_]; exact GW714.out)) (fun hn_ => (Kd.freshB (g := gb714) (o := .cells #[.int .i64 a0_0, .int .i64 a0_1, .string a0_2, .slice A0_3 l0_3.length c0_3, .slice A0_4 l0_4.length c0_4] 25 (0, 0)) (by (with_reducible repeat (first | refine blk_drewN ?_ _ | refine blk_drew ?_ | refine blk_alloc ?_ _)); exact BK714.out) k_ hn_)))) (below_size (by repeat (first | (with_reducible first | exact HB.out | apply below_alloc | apply pw_below_drewN | apply below_drew1 | refine below_set ?_ GE714.out) | exact HB.out)))); have n1_ := Aside0.mk (Kd.V_lower (Kd.V_mono (ok' := fun k_ => k_ ≠ gb714) ho1 (fun k_ hk_ => Or.elim hk_ (fun hs_ => fun e_ => Nat.not_le.2 hs_ (by rw [e_]; exact GW714.out)) (fun hn_ => (Kd.freshB (g := gb714) (o := .cells #[.int .i64 a0_0, .int .i64 a0_1, .string a0_2, .slice A0_3 l0_3.length c0_3, .slice A0_4 l0_4.length c0_4] 25 (0, 0)) (by (with_reducible repeat (first | refine blk_drewN ?_ _ | refine blk_drew ?_ | refine blk_alloc ?_ _)); exact BK714.out) k_ hn_)))) (below_size (by repeat (first | (with_reducible first | exact HB.out | apply below_alloc | apply pw_below_drewN | apply below_drew1 | refine below_set ?_ GE714.out) | exact HB.out)))); have n2_ := Aside0.mk (blk_below (g := gb714) (o := .cells #[.int .i64 a0_0, .int .i64 a0_1, .string a0_2, .slice A0_3 l0_3.length c0_3, .slice A0_4 l0_4.length c0_4] 25 (0, 0)) (by (with_reducible repeat (first | refine blk_drewN ?_ _ | refine blk_drew ?_ | refine blk_alloc ?_ _)); exact BK714.out) hb); have n3_ := Aside0.mk (below_step (by repeat (first | (with_reducible first | exact HB.out | apply below_alloc | apply pw_below_drewN | apply below_drew1 | refine below_set ?_ GE714.out) | exact HB.out)) hb); clear BK714; clear HB; have HO720 := n0_; have HO723 := n1_; have BK714 := n2_; have HB := n3_; clear n0_ n1_ n2_ n3_; (try clear hb); (try clear hb2); (try clear hk); (try clear hi); (try clear ho0); (try clear ho1)) | ((with_reducible refine gate_dst (N := 6) rfl ?_); refine box_event ?hg (N := 6) ?hd (cs := #[.int .i64 0, .int .i64 0, .string (⟨#[]⟩ : ByteArray), .slice none 0 0, .slice none 0 0]) (t := 25) ?hr ?_; (case hd => rfl); (case hg => rfl); (case hr => first | (go_simp; done) | (go_simp; rfl)); intro gb725 hg w9 hbox hb; have n0_ := Aside0.mk (Kd.V_below (Kd.V_elderB (by (with_reducible repeat (first | apply Kd.V_alloc | apply Kd.V_drewN | apply Kd.V_drew)); exact HO720.out) gb725 (Nat.le_of_eq hg.symm)) hb); have n1_ := Aside0.mk (Kd.V_below (Kd.V_elderB (by (with_reducible repeat (first | apply Kd.V_alloc | apply Kd.V_drewN | apply Kd.V_drew)); exact HO723.out) gb725 (Nat.le_of_eq hg.symm)) hb); have n2_ := Aside0.mk (blk_below (g := gb714) (o := .cells #[.int .i64 a0_0, .int .i64 a0_1, .string a0_2, .slice A0_3 l0_3.length c0_3, .slice A0_4 l0_4.length c0_4] 25 (0, 0)) (by (with_reducible repeat (first | refine blk_drewN ?_ _ | refine blk_drew ?_ | refine blk_alloc ?_ _)); exact BK714.out) hb); have n3_ := Aside0.mk (below_step (by repeat (first | (with_reducible first | exact HB.out | apply below_alloc | apply pw_below_drewN | apply below_drew1 | refine below_set ?_ GE714.out) | exact HB.out)) hb); have n4_ := Aside0.mk (hbox); have n5_ := Aside0.mk ((by rw [hg]; exact (below_size (by repeat (first | (with_reducible first | exact HB.out | apply below_alloc | apply pw_below_drewN | apply below_drew1 | refine below_set ?_ GE714.out) | exact HB.out))) : w.heap.size ≤ gb725)); have n6_ := Aside0.mk ((by rw [hg]; exact (below_size (by repeat (first | (with_reducible first | exact HB.out | apply below_alloc | apply pw_below_drewN | apply below_drew1 | refine below_set ?_ GE714.out) | exact HB.out))) : w.heap.size ≤ gb725)); have n7_ := Aside0.mk ((by rw [hg]; exact Nat.ne_of_lt (blk_lt (g := gb714) (o := .cells #[.int .i64 a0_0, .int .i64 a0_1, .string a0_2, .slice A0_3 l0_3.length c0_3, .slice A0_4 l0_4.length c0_4] 25 (0, 0)) (by (with_reducible repeat (first | refine blk_drewN ?_ _ | refine blk_drew ?_ | refine blk_alloc ?_ _)); exact BK714.out)) : gb714 ≠ gb725)); have n8_ := Aside0.mk ((by rw [hg]; exact Nat.ne_of_gt (blk_lt (g := gb714) (o := .cells #[.int .i64 a0_0, .int .i64 a0_1, .string a0_2, .slice A0_3 l0_3.length c0_3, .slice A0_4 l0_4.length c0_4] 25 (0, 0)) (by (with_reducible repeat (first | refine blk_drewN ?_ _ | refine blk_drew ?_ | refine blk_alloc ?_ _)); exact BK714.out)) : gb725 ≠ gb714)); clear HO720; clear HO723; clear BK714; clear HB; have HO720 := n0_; have HO723 := n1_; have BK714 := n2_; have HB := n3_; have BK725 := n4_; have GW725 := n5_; have GE725 := n6_; have NB714_725 := n7_; have NB725_714 := n8_; clear n0_ n1_ n2_ n3_ n4_ n5_ n6_ n7_ n8_; clear hb hbox hg; have hnb10 := NB725_714.out; have hnc10 := NB714_725.out; have hcz11_0 : w9.cell? ⟨gb725, 0, none⟩ = some (.int .i64 0) := (blk_cell BK725.out 0).trans rfl; have hcz11_1 : w9.cell? ⟨gb725, 1, none⟩ = some (.int .i64 0) := (blk_cell BK725.out 1).trans rfl; have hcz11_2 : w9.cell? ⟨gb725, 2, none⟩ = some (.string (⟨#[]⟩ : ByteArray)) := (blk_cell BK725.out 2).trans rfl; have hcz11_3 : w9.cell? ⟨gb725, 3, none⟩ = some (.slice none 0 0) := (blk_cell BK725.out 3).trans rfl; have hcz11_4 : w9.cell? ⟨gb725, 4, none⟩ = some (.slice none 0 0) := (blk_cell BK725.out 4).trans rfl; have hfz11_0 := blk_frozen BK725.out 0; have hfz11_1 := blk_frozen BK725.out 1; have hfz11_2 := blk_frozen BK725.out 2; have hfz11_3 := blk_frozen BK725.out 3; have hfz11_4 := blk_frozen BK725.out 4; obtain ⟨Ao12, co12, eo12⟩ := Kd.V_slice HO720.out; subst eo12; obtain ⟨Ao13, co13, eo13⟩ := Kd.V_slice HO723.out; subst eo13))
      go_ret2
      exact ⟨by first | rfl | (simp [errW_none, errW_some] <;> rfl) | (simp [*, errW_none, errW_some] <;> rfl), by repeat (first | (with_reducible first | exact HB.out | apply below_alloc | apply pw_below_drewN | apply below_drew1 | refine below_set ?_ GE714.out | refine below_set ?_ GE725.out) | exact HB.out)⟩
    · rw [if_neg c5] at H
      have c5b0 : (t715 == 4) = false := beq_eq_false_iff_ne.mpr c5
      have c5b1 : (t715 != 4) = true := bne_iff_ne.mpr c5
      simp only [Option.some.injEq, Prod.mk.injEq] at H
      obtain ⟨rfl, rfl⟩ := H
      go_enter Try.func90, Try.ntmps90
      go_wp2_with (first | ((with_reducible refine gate_dst (N := 2) rfl ?_); refine box_event ?hg (N := 2) ?hd (cs := #[.int .i64 a0_0, .int .i64 a0_1, .string a0_2, .slice A0_3 l0_3.length c0_3, .slice A0_4 l0_4.length c0_4]) (t := 25) ?hr ?_; (case hd => rfl); (case hg => rfl); (case hr => first | (go_simp; done) | (go_simp; rfl)); intro gb714 hg w14 hbox hb; have n0_ := Aside0.mk (below_step (by repeat (first | (with_reducible first | exact HB.out | apply below_alloc | apply pw_below_drewN | apply below_drew1) | exact HB.out)) hb); have n1_ := Aside0.mk (hbox); have n2_ := Aside0.mk ((by rw [hg]; exact (below_size (by repeat (first | (with_reducible first | exact HB.out | apply below_alloc | apply pw_below_drewN | apply below_drew1) | exact HB.out))) : w.heap.size ≤ gb714)); have n3_ := Aside0.mk ((by rw [hg]; exact (below_size (by repeat (first | (with_reducible first | exact HB.out | apply below_alloc | apply pw_below_drewN | apply below_drew1) | exact HB.out))) : w.heap.size ≤ gb714)); clear HB; have HB := n0_; have BK714 := n1_; have GW714 := n2_; have GE714 := n3_; clear n0_ n1_ n2_ n3_; clear hb hbox hg; have hcz15_0 : w14.cell? ⟨gb714, 0, none⟩ = some (.int .i64 a0_0) := (blk_cell BK714.out 0).trans rfl; have hcz15_1 : w14.cell? ⟨gb714, 1, none⟩ = some (.int .i64 a0_1) := (blk_cell BK714.out 1).trans rfl; have hcz15_2 : w14.cell? ⟨gb714, 2, none⟩ = some (.string a0_2) := (blk_cell BK714.out 2).trans rfl; have hcz15_3 : w14.cell? ⟨gb714, 3, none⟩ = some (.slice A0_3 l0_3.length c0_3) := (blk_cell BK714.out 3).trans rfl; have hcz15_4 : w14.cell? ⟨gb714, 4, none⟩ = some (.slice A0_4 l0_4.length c0_4) := (blk_cell BK714.out 4).trans rfl; have hfz15_0 := blk_frozen BK714.out 0; have hfz15_1 := blk_frozen BK714.out 1; have hfz15_2 := blk_frozen BK714.out 2; have hfz15_3 := blk_frozen BK714.out 3; have hfz15_4 := blk_frozen BK714.out 4) | ((with_reducible refine gate_callee (f := 30) rfl ?_); refine goesL_ (some 11) rfl rfl Try.func30 (by kernel_rfl) rfl #[.agg #[.int .i64 a0_0, .int .i64 a0_1, .string a0_2, .slice A0_3 l0_3.length c0_3, .slice A0_4 l0_4.length c0_4], .string a1] rfl (by (try simp only [List.map_toArray, List.map_cons, List.map_nil]); first | done | rfl | (simp only [List.length_drop, List.length_take]; rfl)) ?_; (with_reducible refine (tree_Get.calls k a0_0 a0_1 a0_2 _ _ l0_3 (fun k_ => k_ < w.heap.size) _ _ l0_4 a1 t715 t716 t717 t718 t721 true _ ?side1 ?side2 ?side3 A3.out).mono ?_); (case side1 => repeat (first | exact (Kd.C_below HR0_3.out HB.out) | (with_reducible refine Kd.C_alloc ?_ _) | (with_reducible refine Kd.C_drewN ?_ _) | (with_reducible refine Kd.C_drew ?_))); (case side2 => exact HC0_3.out); (case side3 => exact Kd.V_mk HC0_4.out (Kd.F_below (Kd.C_F k25_heap HR0_4.out) (by repeat (first | (with_reducible first | exact HB.out | apply below_alloc | apply pw_below_drewN | apply below_drew1 | refine below_set ?_ GE714.out) | exact HB.out)))); rintro e w16 ⟨v719, v722, rfl, ho0, ho1, hb⟩; refine ⟨_, rfl, ?_⟩; have n0_ := Aside0.mk (Kd.V_lower (Kd.V_mono (ok' := fun k_ => k_ ≠ gb714) ho0 (fun k_ hk_ => Or.elim hk_ (fun hs_ => fun e_ => Nat.not_le.2 hs_ (by rw [e_]; exact GW714.out)) (fun hn_ => (Kd.freshB (g := gb714) (o := .cells #[.int .i64 a0_0, .int .i64 a0_1, .string a0_2, .slice A0_3 l0_3.length c0_3, .slice A0_4 l0_4.length c0_4] 25 (0, 0)) (by (with_reducible repeat (first | refine blk_drewN ?_ _ | refine blk_drew ?_ | refine blk_alloc ?_ _)); exact BK714.out) k_ hn_)))) (below_size (by repeat (first | (with_reducible first | exact HB.out | apply below_alloc | apply pw_below_drewN | apply below_drew1 | refine below_set ?_ GE714.out) | exact HB.out)))); have n1_ := Aside0.mk (Kd.V_lower (Kd.V_mono (ok' := fun k_ => k_ ≠ gb714) ho1 (fun k_ hk_ => Or.elim hk_ (fun hs_ => fun e_ => Nat.not_le.2 hs_ (by rw [e_]; exact GW714.out)) (fun hn_ => (Kd.freshB (g := gb714) (o := .cells #[.int .i64 a0_0, .int .i64 a0_1, .string a0_2, .slice A0_3 l0_3.length c0_3, .slice A0_4 l0_4.length c0_4] 25 (0, 0)) (by (with_reducible repeat (first | refine blk_drewN ?_ _ | refine blk_drew ?_ | refine blk_alloc ?_ _)); exact BK714.out) k_ hn_)))) (below_size (by repeat (first | (with_reducible first | exact HB.out | apply below_alloc | apply pw_below_drewN | apply below_drew1 | refine below_set ?_ GE714.out) | exact HB.out)))); have n2_ := Aside0.mk (blk_below (g := gb714) (o := .cells #[.int .i64 a0_0, .int .i64 a0_1, .string a0_2, .slice A0_3 l0_3.length c0_3, .slice A0_4 l0_4.length c0_4] 25 (0, 0)) (by (with_reducible repeat (first | refine blk_drewN ?_ _ | refine blk_drew ?_ | refine blk_alloc ?_ _)); exact BK714.out) hb); have n3_ := Aside0.mk (below_step (by repeat (first | (with_reducible first | exact HB.out | apply below_alloc | apply pw_below_drewN | apply below_drew1 | refine below_set ?_ GE714.out) | exact HB.out)) hb); clear BK714; clear HB; have HO720 := n0_; have HO723 := n1_; have BK714 := n2_; have HB := n3_; clear n0_ n1_ n2_ n3_; (try clear hb); (try clear hb2); (try clear hk); (try clear hi); (try clear ho0); (try clear ho1)) | ((with_reducible refine gate_dst (N := 6) rfl ?_); refine box_event ?hg (N := 6) ?hd (cs := #[.int .i64 0, .int .i64 0, .string (⟨#[]⟩ : ByteArray), .slice none 0 0, .slice none 0 0]) (t := 25) ?hr ?_; (case hd => rfl); (case hg => rfl); (case hr => first | (go_simp; done) | (go_simp; rfl)); intro gb725 hg w17 hbox hb; have n0_ := Aside0.mk (Kd.V_below (Kd.V_elderB (by (with_reducible repeat (first | apply Kd.V_alloc | apply Kd.V_drewN | apply Kd.V_drew)); exact HO720.out) gb725 (Nat.le_of_eq hg.symm)) hb); have n1_ := Aside0.mk (Kd.V_below (Kd.V_elderB (by (with_reducible repeat (first | apply Kd.V_alloc | apply Kd.V_drewN | apply Kd.V_drew)); exact HO723.out) gb725 (Nat.le_of_eq hg.symm)) hb); have n2_ := Aside0.mk (blk_below (g := gb714) (o := .cells #[.int .i64 a0_0, .int .i64 a0_1, .string a0_2, .slice A0_3 l0_3.length c0_3, .slice A0_4 l0_4.length c0_4] 25 (0, 0)) (by (with_reducible repeat (first | refine blk_drewN ?_ _ | refine blk_drew ?_ | refine blk_alloc ?_ _)); exact BK714.out) hb); have n3_ := Aside0.mk (below_step (by repeat (first | (with_reducible first | exact HB.out | apply below_alloc | apply pw_below_drewN | apply below_drew1 | refine below_set ?_ GE714.out) | exact HB.out)) hb); have n4_ := Aside0.mk (hbox); have n5_ := Aside0.mk ((by rw [hg]; exact (below_size (by repeat (first | (with_reducible first | exact HB.out | apply below_alloc | apply pw_below_drewN | apply below_drew1 | refine below_set ?_ GE714.out) | exact HB.out))) : w.heap.size ≤ gb725)); have n6_ := Aside0.mk ((by rw [hg]; exact (below_size (by repeat (first | (with_reducible first | exact HB.out | apply below_alloc | apply pw_below_drewN | apply below_drew1 | refine below_set ?_ GE714.out) | exact HB.out))) : w.heap.size ≤ gb725)); have n7_ := Aside0.mk ((by rw [hg]; exact Nat.ne_of_lt (blk_lt (g := gb714) (o := .cells #[.int .i64 a0_0, .int .i64 a0_1, .string a0_2, .slice A0_3 l0_3.length c0_3, .slice A0_4 l0_4.length c0_4] 25 (0, 0)) (by (with_reducible repeat (first | refine blk_drewN ?_ _ | refine blk_drew ?_ | refine blk_alloc ?_ _)); exact BK714.out)) : gb714 ≠ gb725)); have n8_ := Aside0.mk ((by rw [hg]; exact Nat.ne_of_gt (blk_lt (g := gb714) (o := .cells #[.int .i64 a0_0, .int .i64 a0_1, .string a0_2, .slice A0_3 l0_3.length c0_3, .slice A0_4 l0_4.length c0_4] 25 (0, 0)) (by (with_reducible repeat (first | refine blk_drewN ?_ _ | refine blk_drew ?_ | refine blk_alloc ?_ _)); exact BK714.out)) : gb725 ≠ gb714)); clear HO720; clear HO723; clear BK714; clear HB; have HO720 := n0_; have HO723 := n1_; have BK714 := n2_; have HB := n3_; have BK725 := n4_; have GW725 := n5_; have GE725 := n6_; have NB714_725 := n7_; have NB725_714 := n8_; clear n0_ n1_ n2_ n3_ n4_ n5_ n6_ n7_ n8_; clear hb hbox hg; have hnb18 := NB725_714.out; have hnc18 := NB714_725.out; have hcz19_0 : w17.cell? ⟨gb725, 0, none⟩ = some (.int .i64 0) := (blk_cell BK725.out 0).trans rfl; have hcz19_1 : w17.cell? ⟨gb725, 1, none⟩ = some (.int .i64 0) := (blk_cell BK725.out 1).trans rfl; have hcz19_2 : w17.cell? ⟨gb725, 2, none⟩ = some (.string (⟨#[]⟩ : ByteArray)) := (blk_cell BK725.out 2).trans rfl; have hcz19_3 : w17.cell? ⟨gb725, 3, none⟩ = some (.slice none 0 0) := (blk_cell BK725.out 3).trans rfl; have hcz19_4 : w17.cell? ⟨gb725, 4, none⟩ = some (.slice none 0 0) := (blk_cell BK725.out 4).trans rfl; have hfz19_0 := blk_frozen BK725.out 0; have hfz19_1 := blk_frozen BK725.out 1; have hfz19_2 := blk_frozen BK725.out 2; have hfz19_3 := blk_frozen BK725.out 3; have hfz19_4 := blk_frozen BK725.out 4; obtain ⟨Ao20, co20, eo20⟩ := Kd.V_slice HO720.out; subst eo20; obtain ⟨Ao21, co21, eo21⟩ := Kd.V_slice HO723.out; subst eo21))
      go_ret2
      exact ⟨by first | rfl | (simp [errW_none, errW_some] <;> rfl) | (simp [*, errW_none, errW_some] <;> rfl), by repeat (first | (with_reducible first | exact HB.out | apply below_alloc | apply pw_below_drewN | apply below_drew1 | refine below_set ?_ GE714.out | refine below_set ?_ GE725.out) | exact HB.out)⟩
  · replace c4 := Bool.eq_false_iff.mpr c4
    subst c4
    have H1 : (some ((⟨#[]⟩ : ByteArray), false)) = some (r1, r2) := by rw [if_neg (show ¬ (false = true) by decide)] at H; exact H
    clear H
    have H := H1
    clear H1
    simp only [Option.some.injEq, Prod.mk.injEq] at H
    obtain ⟨rfl, rfl⟩ := H
    go_enter Try.func90, Try.ntmps90
    go_wp2_with (first | ((with_reducible refine gate_dst (N := 2) rfl ?_); refine box_event ?hg (N := 2) ?hd (cs := #[.int .i64 a0_0, .int .i64 a0_1, .string a0_2, .slice A0_3 l0_3.length c0_3, .slice A0_4 l0_4.length c0_4]) (t := 25) ?hr ?_; (case hd => rfl); (case hg => rfl); (case hr => first | (go_simp; done) | (go_simp; rfl)); intro gb714 hg w22 hbox hb; have n0_ := Aside0.mk (below_step (by repeat (first | (with_reducible first | exact HB.out | apply below_alloc | apply pw_below_drewN | apply below_drew1) | exact HB.out)) hb); have n1_ := Aside0.mk (hbox); have n2_ := Aside0.mk ((by rw [hg]; exact (below_size (by repeat (first | (with_reducible first | exact HB.out | apply below_alloc | apply pw_below_drewN | apply below_drew1) | exact HB.out))) : w.heap.size ≤ gb714)); have n3_ := Aside0.mk ((by rw [hg]; exact (below_size (by repeat (first | (with_reducible first | exact HB.out | apply below_alloc | apply pw_below_drewN | apply below_drew1) | exact HB.out))) : w.heap.size ≤ gb714)); clear HB; have HB := n0_; have BK714 := n1_; have GW714 := n2_; have GE714 := n3_; clear n0_ n1_ n2_ n3_; clear hb hbox hg; have hcz23_0 : w22.cell? ⟨gb714, 0, none⟩ = some (.int .i64 a0_0) := (blk_cell BK714.out 0).trans rfl; have hcz23_1 : w22.cell? ⟨gb714, 1, none⟩ = some (.int .i64 a0_1) := (blk_cell BK714.out 1).trans rfl; have hcz23_2 : w22.cell? ⟨gb714, 2, none⟩ = some (.string a0_2) := (blk_cell BK714.out 2).trans rfl; have hcz23_3 : w22.cell? ⟨gb714, 3, none⟩ = some (.slice A0_3 l0_3.length c0_3) := (blk_cell BK714.out 3).trans rfl; have hcz23_4 : w22.cell? ⟨gb714, 4, none⟩ = some (.slice A0_4 l0_4.length c0_4) := (blk_cell BK714.out 4).trans rfl; have hfz23_0 := blk_frozen BK714.out 0; have hfz23_1 := blk_frozen BK714.out 1; have hfz23_2 := blk_frozen BK714.out 2; have hfz23_3 := blk_frozen BK714.out 3; have hfz23_4 := blk_frozen BK714.out 4) | ((with_reducible refine gate_callee (f := 30) rfl ?_); refine goesL_ (some 11) rfl rfl Try.func30 (by kernel_rfl) rfl #[.agg #[.int .i64 a0_0, .int .i64 a0_1, .string a0_2, .slice A0_3 l0_3.length c0_3, .slice A0_4 l0_4.length c0_4], .string a1] rfl (by (try simp only [List.map_toArray, List.map_cons, List.map_nil]); first | done | rfl | (simp only [List.length_drop, List.length_take]; rfl)) ?_; (with_reducible refine (tree_Get.calls k a0_0 a0_1 a0_2 _ _ l0_3 (fun k_ => k_ < w.heap.size) _ _ l0_4 a1 t715 t716 t717 t718 t721 false _ ?side1 ?side2 ?side3 A3.out).mono ?_); (case side1 => repeat (first | exact (Kd.C_below HR0_3.out HB.out) | (with_reducible refine Kd.C_alloc ?_ _) | (with_reducible refine Kd.C_drewN ?_ _) | (with_reducible refine Kd.C_drew ?_))); (case side2 => exact HC0_3.out); (case side3 => exact Kd.V_mk HC0_4.out (Kd.F_below (Kd.C_F k25_heap HR0_4.out) (by repeat (first | (with_reducible first | exact HB.out | apply below_alloc | apply pw_below_drewN | apply below_drew1 | refine below_set ?_ GE714.out) | exact HB.out)))); rintro e w24 ⟨v719, v722, rfl, ho0, ho1, hb⟩; refine ⟨_, rfl, ?_⟩; have n0_ := Aside0.mk (Kd.V_lower (Kd.V_mono (ok' := fun k_ => k_ ≠ gb714) ho0 (fun k_ hk_ => Or.elim hk_ (fun hs_ => fun e_ => Nat.not_le.2 hs_ (by rw [e_]; exact GW714.out)) (fun hn_ => (Kd.freshB (g := gb714) (o := .cells #[.int .i64 a0_0, .int .i64 a0_1, .string a0_2, .slice A0_3 l0_3.length c0_3, .slice A0_4 l0_4.length c0_4] 25 (0, 0)) (by (with_reducible repeat (first | refine blk_drewN ?_ _ | refine blk_drew ?_ | refine blk_alloc ?_ _)); exact BK714.out) k_ hn_)))) (below_size (by repeat (first | (with_reducible first | exact HB.out | apply below_alloc | apply pw_below_drewN | apply below_drew1 | refine below_set ?_ GE714.out) | exact HB.out)))); have n1_ := Aside0.mk (Kd.V_lower (Kd.V_mono (ok' := fun k_ => k_ ≠ gb714) ho1 (fun k_ hk_ => Or.elim hk_ (fun hs_ => fun e_ => Nat.not_le.2 hs_ (by rw [e_]; exact GW714.out)) (fun hn_ => (Kd.freshB (g := gb714) (o := .cells #[.int .i64 a0_0, .int .i64 a0_1, .string a0_2, .slice A0_3 l0_3.length c0_3, .slice A0_4 l0_4.length c0_4] 25 (0, 0)) (by (with_reducible repeat (first | refine blk_drewN ?_ _ | refine blk_drew ?_ | refine blk_alloc ?_ _)); exact BK714.out) k_ hn_)))) (below_size (by repeat (first | (with_reducible first | exact HB.out | apply below_alloc | apply pw_below_drewN | apply below_drew1 | refine below_set ?_ GE714.out) | exact HB.out)))); have n2_ := Aside0.mk (blk_below (g := gb714) (o := .cells #[.int .i64 a0_0, .int .i64 a0_1, .string a0_2, .slice A0_3 l0_3.length c0_3, .slice A0_4 l0_4.length c0_4] 25 (0, 0)) (by (with_reducible repeat (first | refine blk_drewN ?_ _ | refine blk_drew ?_ | refine blk_alloc ?_ _)); exact BK714.out) hb); have n3_ := Aside0.mk (below_step (by repeat (first | (with_reducible first | exact HB.out | apply below_alloc | apply pw_below_drewN | apply below_drew1 | refine below_set ?_ GE714.out) | exact HB.out)) hb); clear BK714; clear HB; have HO720 := n0_; have HO723 := n1_; have BK714 := n2_; have HB := n3_; clear n0_ n1_ n2_ n3_; (try clear hb); (try clear hb2); (try clear hk); (try clear hi); (try clear ho0); (try clear ho1)) | ((with_reducible refine gate_dst (N := 6) rfl ?_); refine box_event ?hg (N := 6) ?hd (cs := #[.int .i64 0, .int .i64 0, .string (⟨#[]⟩ : ByteArray), .slice none 0 0, .slice none 0 0]) (t := 25) ?hr ?_; (case hd => rfl); (case hg => rfl); (case hr => first | (go_simp; done) | (go_simp; rfl)); intro gb725 hg w25 hbox hb; have n0_ := Aside0.mk (Kd.V_below (Kd.V_elderB (by (with_reducible repeat (first | apply Kd.V_alloc | apply Kd.V_drewN | apply Kd.V_drew)); exact HO720.out) gb725 (Nat.le_of_eq hg.symm)) hb); have n1_ := Aside0.mk (Kd.V_below (Kd.V_elderB (by (with_reducible repeat (first | apply Kd.V_alloc | apply Kd.V_drewN | apply Kd.V_drew)); exact HO723.out) gb725 (Nat.le_of_eq hg.symm)) hb); have n2_ := Aside0.mk (blk_below (g := gb714) (o := .cells #[.int .i64 a0_0, .int .i64 a0_1, .string a0_2, .slice A0_3 l0_3.length c0_3, .slice A0_4 l0_4.length c0_4] 25 (0, 0)) (by (with_reducible repeat (first | refine blk_drewN ?_ _ | refine blk_drew ?_ | refine blk_alloc ?_ _)); exact BK714.out) hb); have n3_ := Aside0.mk (below_step (by repeat (first | (with_reducible first | exact HB.out | apply below_alloc | apply pw_below_drewN | apply below_drew1 | refine below_set ?_ GE714.out) | exact HB.out)) hb); have n4_ := Aside0.mk (hbox); have n5_ := Aside0.mk ((by rw [hg]; exact (below_size (by repeat (first | (with_reducible first | exact HB.out | apply below_alloc | apply pw_below_drewN | apply below_drew1 | refine below_set ?_ GE714.out) | exact HB.out))) : w.heap.size ≤ gb725)); have n6_ := Aside0.mk ((by rw [hg]; exact (below_size (by repeat (first | (with_reducible first | exact HB.out | apply below_alloc | apply pw_below_drewN | apply below_drew1 | refine below_set ?_ GE714.out) | exact HB.out))) : w.heap.size ≤ gb725)); have n7_ := Aside0.mk ((by rw [hg]; exact Nat.ne_of_lt (blk_lt (g := gb714) (o := .cells #[.int .i64 a0_0, .int .i64 a0_1, .string a0_2, .slice A0_3 l0_3.length c0_3, .slice A0_4 l0_4.length c0_4] 25 (0, 0)) (by (with_reducible repeat (first | refine blk_drewN ?_ _ | refine blk_drew ?_ | refine blk_alloc ?_ _)); exact BK714.out)) : gb714 ≠ gb725)); have n8_ := Aside0.mk ((by rw [hg]; exact Nat.ne_of_gt (blk_lt (g := gb714) (o := .cells #[.int .i64 a0_0, .int .i64 a0_1, .string a0_2, .slice A0_3 l0_3.length c0_3, .slice A0_4 l0_4.length c0_4] 25 (0, 0)) (by (with_reducible repeat (first | refine blk_drewN ?_ _ | refine blk_drew ?_ | refine blk_alloc ?_ _)); exact BK714.out)) : gb725 ≠ gb714)); clear HO720; clear HO723; clear BK714; clear HB; have HO720 := n0_; have HO723 := n1_; have BK714 := n2_; have HB := n3_; have BK725 := n4_; have GW725 := n5_; have GE725 := n6_; have NB714_725 := n7_; have NB725_714 := n8_; clear n0_ n1_ n2_ n3_ n4_ n5_ n6_ n7_ n8_; clear hb hbox hg; have hnb26 := NB725_714.out; have hnc26 := NB714_725.out; have hcz27_0 : w25.cell? ⟨gb725, 0, none⟩ = some (.int .i64 0) := (blk_cell BK725.out 0).trans rfl; have hcz27_1 : w25.cell? ⟨gb725, 1, none⟩ = some (.int .i64 0) := (blk_cell BK725.out 1).trans rfl; have hcz27_2 : w25.cell? ⟨gb725, 2, none⟩ = some (.string (⟨#[]⟩ : ByteArray)) := (blk_cell BK725.out 2).trans rfl; have hcz27_3 : w25.cell? ⟨gb725, 3, none⟩ = some (.slice none 0 0) := (blk_cell BK725.out 3).trans rfl; have hcz27_4 : w25.cell? ⟨gb725, 4, none⟩ = some (.slice none 0 0) := (blk_cell BK725.out 4).trans rfl; have hfz27_0 := blk_frozen BK725.out 0; have hfz27_1 := blk_frozen BK725.out 1; have hfz27_2 := blk_frozen BK725.out 2; have hfz27_3 := blk_frozen BK725.out 3; have hfz27_4 := blk_frozen BK725.out 4; obtain ⟨Ao28, co28, eo28⟩ := Kd.V_slice HO720.out; subst eo28; obtain ⟨Ao29, co29, eo29⟩ := Kd.V_slice HO723.out; subst eo29))
    go_ret2
    exact ⟨by first | rfl | (simp [errW_none, errW_some] <;> rfl) | (simp [*, errW_none, errW_some] <;> rfl), by repeat (first | (with_reducible first | exact HB.out | apply below_alloc | apply pw_below_drewN | apply below_drew1 | refine below_set ?_ GE714.out | refine below_set ?_ GE725.out) | exact HB.out)⟩
end Go.Proofs.Ytjdldlphfifggaa.X
end
