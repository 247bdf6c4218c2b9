import Derived.Test.YtijfbnkohnlmaaaC04B3
import Derived.Test.YtijfbnkohnlmaaaRows
import Derived.WalkKit
import Derived.ProofKit
import Derived.OpenShut
import Derived.ShutString
import Derived.ChangeOld
import Derived.Below
import Derived.SizedLaws
section
namespace Go.Proofs.Ytijfbnkohnlmaaa.X
open Go.RowKit Go.Proofs.YtijfbnkohnlmaaaW.PrintWords Go.Proofs.YtijfbnkohnlmaaaW.PrintLast Go.Proofs.YtijfbnkohnlmaaaW.PrintMore
attribute [local go_sem] max2_int min2_int max_two min_two max_three min_three max_four min_four
set_option linter.unusedVariables false
set_option linter.unusedSimpArgs false
def sealringref04_pair.f (k : Nat) (a0 : ByteArray) (a1 : Int) : Option (Int × Int) := if a1 ≥ (a0.size : Int) then (some (0, 5)) else (if 0 ≤ a1 then (if a1 < (a0.size : Int) then (if (bt a0 a1) = 92 then (if (wrap64 (a1 + 1)) ≥ (a0.size : Int) then (some (0, 5)) else (if 0 ≤ (wrap64 (a1 + 1)) then (if (wrap64 (a1 + 1)) < (a0.size : Int) then (if (bt a0 (wrap64 (a1 + 1))) = 117 then ((sealringref04_four.f k a0 (wrap64 (a1 + 2))).bind fun bt222 => (if bt222.2 = 0 then (if bt222.1 < 56320 then (some (0, 11)) else (if bt222.1 > 57343 then (some (0, 11)) else (some (bt222.1, bt222.2)))) else (some (bt222.1, bt222.2)))) else (some (0, 11))) else (none)) else (none))) else (some (0, 11))) else (none)) else (none))
theorem sealringref04_pair.mono : ∀ a0 a1 k, LeO (sealringref04_pair.f k a0 a1) (sealringref04_pair.f (k + 1) a0 a1) := by
  intro a0 a1 k
  unfold sealringref04_pair.f
  repeat' first
      | (with_reducible exact sealringref04_four.mono _ _ _)
      | (with_reducible exact LeO.refl _)
      | (with_reducible exact LeO.none _)
      | (with_reducible refine LeO.ite ?_ ?_)
      | (with_reducible refine LeO.bind ?_ (fun _ => ?_))
      | exact sealringref04_four.mono _ _ _
      | exact LeO.none _
      | refine LeO.ite ?_ ?_
      | refine LeO.bind ?_ (fun _ => ?_)
set_option maxHeartbeats 8000000 in
set_option maxRecDepth 100000 in
theorem sealringref04_pair.calls (k : Nat) (a0 : ByteArray) (a1 : Int) (r1 : Int) (r2 : Int) (w : World) (h : sealringref04_pair.f k a0 a1 = some (r1, r2)) :
    Calls Try.prog 44 #[.string a0, .int .i64 a1] w fun e w' => e = .returned (.tuple #[.int .i64 r1, .int .i64 r2]) ∧ Drawn0 w w' := by
  have H : (if a1 ≥ (a0.size : Int) then (some (0, 5)) else (if 0 ≤ a1 then (if a1 < (a0.size : Int) then (if (bt a0 a1) = 92 then (if (wrap64 (a1 + 1)) ≥ (a0.size : Int) then (some (0, 5)) else (if 0 ≤ (wrap64 (a1 + 1)) then (if (wrap64 (a1 + 1)) < (a0.size : Int) then (if (bt a0 (wrap64 (a1 + 1))) = 117 then ((sealringref04_four.f k a0 (wrap64 (a1 + 2))).bind fun bt222 => (if bt222.2 = 0 then (if bt222.1 < 56320 then (some (0, 11)) else (if bt222.1 > 57343 then (some (0, 11)) else (some (bt222.1, bt222.2)))) else (some (bt222.1, bt222.2)))) else (some (0, 11))) else (none)) else (none))) else (some (0, 11))) else (none)) else (none))) = some (r1, r2) := h
  clear h
  by_cases c3 : a1 ≥ (a0.size : Int)
  · rw [if_pos c3] at H
    have c3b0 : decide ((a0.size : Int) ≤ a1) = true := decide_eq_true c3
    clear c3
    simp only [Option.some.injEq, Prod.mk.injEq] at H
    obtain ⟨rfl, rfl⟩ := H
    go_enter Try.func44, Try.ntmps44
    go_wp2
    go_ret2
    exact ⟨by first | rfl | (simp; done) | (simp [*]; done), by repeat (first | exact Drawn0.refl _ | apply Drawn0.step)⟩
  · rw [if_neg c3] at H
    have c3b0 : decide ((a0.size : Int) ≤ a1) = false := decide_eq_false c3
    clear c3
    by_cases c4 : 0 ≤ a1
    · rw [if_pos c4] at H
      have c4b0 : decide (0 ≤ a1) = true := decide_eq_true c4
      clear c4
      by_cases c5 : a1 < (a0.size : Int)
      · rw [if_pos c5] at H
        have c5b0 : decide (a1 < (a0.size : Int)) = true := decide_eq_true c5
        clear c5
        by_cases c7 : (bt a0 a1) = 92
        · rw [if_pos c7] at H
          have c7b0 : ((bt a0 a1) == 92) = true := beq_iff_eq.mpr c7
          have c7b1 : ((bt a0 a1) != 92) = false := bne_eq_false_iff_eq.mpr c7
          clear c7
          by_cases c8 : (wrap64 (a1 + 1)) ≥ (a0.size : Int)
          · rw [if_pos c8] at H
            have c8b0 : decide ((a0.size : Int) ≤ (wrap64 (a1 + 1))) = true := decide_eq_true c8
            clear c8
            simp only [Option.some.injEq, Prod.mk.injEq] at H
            obtain ⟨rfl, rfl⟩ := H
            have p6 : 0 ≤ (a1 : Int) := of_decide_eq_true (by first | (with_reducible assumption) | assumption)
            have q6 : a1 < (a0.size : Int) := of_decide_eq_true (by first | (with_reducible assumption) | assumption)
            have hx6 := bt_at a0 a1
            replace p6 := eq_true p6
            replace q6 := eq_true q6
            go_enter Try.func44, Try.ntmps44
            go_wp2
            go_ret2
            exact ⟨by first | rfl | (simp; done) | (simp [*]; done), by repeat (first | exact Drawn0.refl _ | apply Drawn0.step)⟩
          · rw [if_neg c8] at H
            have c8b0 : decide ((a0.size : Int) ≤ (wrap64 (a1 + 1))) = false := decide_eq_false c8
            clear c8
            obtain ⟨ji9, hji9⟩ : ∃ j_ : Int, (wrap64 (a1 + 1)) = j_ := ⟨_, rfl⟩
            replace H : (if 0 ≤ (ji9) then (if (ji9) < (a0.size : Int) then (if (bt a0 (ji9)) = 117 then ((sealringref04_four.f k a0 (wrap64 (a1 + 2))).bind fun bt222 => (if bt222.2 = 0 then (if bt222.1 < 56320 then (some (0, 11)) else (if bt222.1 > 57343 then (some (0, 11)) else (some (bt222.1, bt222.2)))) else (some (bt222.1, bt222.2)))) else (some (0, 11))) else (none)) else (none)) = some (r1, r2) := by first | (rw [hji9] at H; exact H) | (simp only [hji9] at H ⊢; exact H)
            (try rw [hji9] at c8b0)
            have hji9w : (IntKind.i64.wrap (a1 + 1)) = ji9 := (i64_w _).trans hji9
            by_cases c10 : 0 ≤ (ji9)
            · rw [if_pos c10] at H
              have c10b0 : decide (0 ≤ (ji9)) = true := decide_eq_true c10
              clear c10
              by_cases c11 : (ji9) < (a0.size : Int)
              · rw [if_pos c11] at H
                have c11b0 : decide ((ji9) < (a0.size : Int)) = true := decide_eq_true c11
                clear c11
                by_cases c13 : (bt a0 (ji9)) = 117
                · rw [if_pos c13] at H
                  have c13b0 : ((bt a0 (ji9)) == 117) = true := beq_iff_eq.mpr c13
                  have c13b1 : ((bt a0 (ji9)) != 117) = false := bne_eq_false_iff_eq.mpr c13
                  clear c13
                  replace H := Option.bind_eq_some_iff.mp H
                  obtain ⟨⟨t222, t223⟩, A140, H⟩ := H
                  replace H : (if t223 = 0 then (if t222 < 56320 then (some (0, 11)) else (if t222 > 57343 then (some (0, 11)) else (some (t222, t223)))) else (some (t222, t223))) = some (r1, r2) := H
                  have A14 := Aside0.mk A140
                  clear A140
                  by_cases c15 : t223 = 0
                  · rw [if_pos c15] at H
                    have c15b0 : (t223 == 0) = true := beq_iff_eq.mpr c15
                    have c15b1 : (t223 != 0) = false := bne_eq_false_iff_eq.mpr c15
                    clear c15
                    by_cases c16 : t222 < 56320
                    · rw [if_pos c16] at H
                      have c16b0 : decide (t222 < 56320) = true := decide_eq_true c16
                      clear c16
                      simp only [Option.some.injEq, Prod.mk.injEq] at H
                      obtain ⟨rfl, rfl⟩ := H
                      have p6 : 0 ≤ (a1 : Int) := of_decide_eq_true (by first | (with_reducible assumption) | assumption)
                      have q6 : a1 < (a0.size : Int) := of_decide_eq_true (by first | (with_reducible assumption) | assumption)
                      have hx6 := bt_at a0 a1
                      replace p6 := eq_true p6
                      replace q6 := eq_true q6
                      have p12 : 0 ≤ ((ji9) : Int) := of_decide_eq_true (by first | (with_reducible assumption) | assumption)
                      have q12 : (ji9) < (a0.size : Int) := of_decide_eq_true (by first | (with_reducible assumption) | assumption)
                      have hx12 := bt_at a0 (ji9)
                      replace p12 := eq_true p12
                      replace q12 := eq_true q12
                      go_enter Try.func44, Try.ntmps44
                      go_wp2_with (first | ((with_reducible refine gate_callee (f := 43) rfl ?_); refine goesL_ (some 30) rfl rfl Try.func43 (by kernel_rfl) rfl #[.string a0, .int .i64 (wrap64 (a1 + 2))] rfl (by (try simp only [List.map_toArray, List.map_cons, List.map_nil]); first | done | rfl | (simp only [List.length_drop, List.length_take]; rfl)) ?_; (with_reducible refine (sealringref04_four.calls k a0 (wrap64 (a1 + 2)) t222 t223 _ A14.out).mono ?_); rintro e w' ⟨rfl, ⟨nd, rfl⟩⟩; refine ⟨_, rfl, ?_⟩))
                      go_ret2
                      exact ⟨by first | rfl | (simp; done) | (simp only [← hji9] <;> (first | rfl | simp)) | (simp [*]; done), by repeat (first | exact Drawn0.refl _ | apply Drawn0.step)⟩
                    · rw [if_neg c16] at H
                      have c16b0 : decide (t222 < 56320) = false := decide_eq_false c16
                      clear c16
                      by_cases c17 : t222 > 57343
                      · rw [if_pos c17] at H
                        have c17b0 : decide (57343 < t222) = true := decide_eq_true c17
                        clear c17
                        simp only [Option.some.injEq, Prod.mk.injEq] at H
                        obtain ⟨rfl, rfl⟩ := H
                        have p6 : 0 ≤ (a1 : Int) := of_decide_eq_true (by first | (with_reducible assumption) | assumption)
                        have q6 : a1 < (a0.size : Int) := of_decide_eq_true (by first | (with_reducible assumption) | assumption)
                        have hx6 := bt_at a0 a1
                        replace p6 := eq_true p6
                        replace q6 := eq_true q6
                        have p12 : 0 ≤ ((ji9) : Int) := of_decide_eq_true (by first | (with_reducible assumption) | assumption)
                        have q12 : (ji9) < (a0.size : Int) := of_decide_eq_true (by first | (with_reducible assumption) | assumption)
                        have hx12 := bt_at a0 (ji9)
                        replace p12 := eq_true p12
                        replace q12 := eq_true q12
                        go_enter Try.func44, Try.ntmps44
                        go_wp2_with (first | ((with_reducible refine gate_callee (f := 43) rfl ?_); refine goesL_ (some 30) rfl rfl Try.func43 (by kernel_rfl) rfl #[.string a0, .int .i64 (wrap64 (a1 + 2))] rfl (by (try simp only [List.map_toArray, List.map_cons, List.map_nil]); first | done | rfl | (simp only [List.length_drop, List.length_take]; rfl)) ?_; (with_reducible refine (sealringref04_four.calls k a0 (wrap64 (a1 + 2)) t222 t223 _ A14.out).mono ?_); rintro e w' ⟨rfl, ⟨nd, rfl⟩⟩; refine ⟨_, rfl, ?_⟩))
                        go_ret2
                        exact ⟨by first | rfl | (simp; done) | (simp only [← hji9] <;> (first | rfl | simp)) | (simp [*]; done), by repeat (first | exact Drawn0.refl _ | apply Drawn0.step)⟩
                      · rw [if_neg c17] at H
                        have c17b0 : decide (57343 < t222) = false := decide_eq_false c17
                        clear c17
                        simp only [Option.some.injEq, Prod.mk.injEq] at H
                        obtain ⟨rfl, rfl⟩ := H
                        have p6 : 0 ≤ (a1 : Int) := of_decide_eq_true (by first | (with_reducible assumption) | assumption)
                        have q6 : a1 < (a0.size : Int) := of_decide_eq_true (by first | (with_reducible assumption) | assumption)
                        have hx6 := bt_at a0 a1
                        replace p6 := eq_true p6
                        replace q6 := eq_true q6
                        have p12 : 0 ≤ ((ji9) : Int) := of_decide_eq_true (by first | (with_reducible assumption) | assumption)
                        have q12 : (ji9) < (a0.size : Int) := of_decide_eq_true (by first | (with_reducible assumption) | assumption)
                        have hx12 := bt_at a0 (ji9)
                        replace p12 := eq_true p12
                        replace q12 := eq_true q12
                        go_enter Try.func44, Try.ntmps44
                        go_wp2_with (first | ((with_reducible refine gate_callee (f := 43) rfl ?_); refine goesL_ (some 30) rfl rfl Try.func43 (by kernel_rfl) rfl #[.string a0, .int .i64 (wrap64 (a1 + 2))] rfl (by (try simp only [List.map_toArray, List.map_cons, List.map_nil]); first | done | rfl | (simp only [List.length_drop, List.length_take]; rfl)) ?_; (with_reducible refine (sealringref04_four.calls k a0 (wrap64 (a1 + 2)) t222 t223 _ A14.out).mono ?_); rintro e w' ⟨rfl, ⟨nd, rfl⟩⟩; refine ⟨_, rfl, ?_⟩))
                        go_ret2
                        exact ⟨by first | rfl | (simp; done) | (simp only [← hji9] <;> (first | rfl | simp)) | (simp [*]; done), by repeat (first | exact Drawn0.refl _ | apply Drawn0.step)⟩
                  · rw [if_neg c15] at H
                    have c15b0 : (t223 == 0) = false := beq_eq_false_iff_ne.mpr c15
                    have c15b1 : (t223 != 0) = true := bne_iff_ne.mpr c15
                    simp only [Option.some.injEq, Prod.mk.injEq] at H
                    obtain ⟨rfl, rfl⟩ := H
                    have p6 : 0 ≤ (a1 : Int) := of_decide_eq_true (by first | (with_reducible assumption) | assumption)
                    have q6 : a1 < (a0.size : Int) := of_decide_eq_true (by first | (with_reducible assumption) | assumption)
                    have hx6 := bt_at a0 a1
                    replace p6 := eq_true p6
                    replace q6 := eq_true q6
                    have p12 : 0 ≤ ((ji9) : Int) := of_decide_eq_true (by first | (with_reducible assumption) | assumption)
                    have q12 : (ji9) < (a0.size : Int) := of_decide_eq_true (by first | (with_reducible assumption) | assumption)
                    have hx12 := bt_at a0 (ji9)
                    replace p12 := eq_true p12
                    replace q12 := eq_true q12
                    go_enter Try.func44, Try.ntmps44
                    go_wp2_with (first | ((with_reducible refine gate_callee (f := 43) rfl ?_); refine goesL_ (some 30) rfl rfl Try.func43 (by kernel_rfl) rfl #[.string a0, .int .i64 (wrap64 (a1 + 2))] rfl (by (try simp only [List.map_toArray, List.map_cons, List.map_nil]); first | done | rfl | (simp only [List.length_drop, List.length_take]; rfl)) ?_; (with_reducible refine (sealringref04_four.calls k a0 (wrap64 (a1 + 2)) t222 t223 _ A14.out).mono ?_); rintro e w' ⟨rfl, ⟨nd, rfl⟩⟩; refine ⟨_, rfl, ?_⟩))
                    go_ret2
                    exact ⟨by first | rfl | (simp; done) | (simp only [← hji9] <;> (first | rfl | simp)) | (simp [*]; done), by repeat (first | exact Drawn0.refl _ | apply Drawn0.step)⟩
                · rw [if_neg c13] at H
                  have c13b0 : ((bt a0 (ji9)) == 117) = false := beq_eq_false_iff_ne.mpr c13
                  have c13b1 : ((bt a0 (ji9)) != 117) = true := bne_iff_ne.mpr c13
                  simp only [Option.some.injEq, Prod.mk.injEq] at H
                  obtain ⟨rfl, rfl⟩ := H
                  have p6 : 0 ≤ (a1 : Int) := of_decide_eq_true (by first | (with_reducible assumption) | assumption)
                  have q6 : a1 < (a0.size : Int) := of_decide_eq_true (by first | (with_reducible assumption) | assumption)
                  have hx6 := bt_at a0 a1
                  replace p6 := eq_true p6
                  replace q6 := eq_true q6
                  have p12 : 0 ≤ ((ji9) : Int) := of_decide_eq_true (by first | (with_reducible assumption) | assumption)
                  have q12 : (ji9) < (a0.size : Int) := of_decide_eq_true (by first | (with_reducible assumption) | assumption)
                  have hx12 := bt_at a0 (ji9)
                  replace p12 := eq_true p12
                  replace q12 := eq_true q12
                  go_enter Try.func44, Try.ntmps44
                  go_wp2
                  go_ret2
                  exact ⟨by first | rfl | (simp; done) | (simp only [← hji9] <;> (first | rfl | simp)) | (simp [*]; done), by repeat (first | exact Drawn0.refl _ | apply Drawn0.step)⟩
              · rw [if_neg c11] at H
                exact absurd H (by simp)
            · rw [if_neg c10] at H
              exact absurd H (by simp)
        · rw [if_neg c7] at H
          have c7b0 : ((bt a0 a1) == 92) = false := beq_eq_false_iff_ne.mpr c7
          have c7b1 : ((bt a0 a1) != 92) = true := bne_iff_ne.mpr c7
          simp only [Option.some.injEq, Prod.mk.injEq] at H
          obtain ⟨rfl, rfl⟩ := H
          have p6 : 0 ≤ (a1 : Int) := of_decide_eq_true (by first | (with_reducible assumption) | assumption)
          have q6 : a1 < (a0.size : Int) := of_decide_eq_true (by first | (with_reducible assumption) | assumption)
          have hx6 := bt_at a0 a1
          replace p6 := eq_true p6
          replace q6 := eq_true q6
          go_enter Try.func44, Try.ntmps44
          go_wp2
          go_ret2
          exact ⟨by first | rfl | (simp; done) | (simp [*]; done), by repeat (first | exact Drawn0.refl _ | apply Drawn0.step)⟩
      · rw [if_neg c5] at H
        exact absurd H (by simp)
    · rw [if_neg c4] at H
      exact absurd H (by simp)
end Go.Proofs.Ytijfbnkohnlmaaa.X
end
section
namespace Go.Proofs.Ytijfbnkohnlmaaa.X
open Go.RowKit Go.Proofs.YtijfbnkohnlmaaaW.PrintWords Go.Proofs.YtijfbnkohnlmaaaW.PrintLast Go.Proofs.YtijfbnkohnlmaaaW.PrintMore
attribute [local go_sem] max2_int min2_int max_two min_two max_three min_three max_four min_four
set_option linter.unusedVariables false
set_option linter.unusedSimpArgs false
mutual
def sealringref04_escape.l0 : Nat → ByteArray → Int → Int → Int → Option (Int × Int × Int)
  | 0, _, _, _, _ => none
  | k + 1, x0, x1, x7, x8 => if x8 < 128 then ((sealringref04_small.f k x8).bind fun t224 => (if t224 = 0 then (sealringref04_escape.l0 k x0 x1 x7 (wrap64 (x8 + 1))) else ((sealringref04_small.f k x8).bind fun t225 => (if t225 = x7 then (some (x8, 1, 0)) else (sealringref04_escape.l0 k x0 x1 x7 (wrap64 (x8 + 1))))))) else (if x7 = 117 then ((sealringref04_four.f k x0 (wrap64 (x1 + 1))).bind fun bt226 => (if bt226.2 = 0 then (if bt226.1 < 55296 then (sealringref04_escape.j1 k x0 x1 bt226.1 true) else (sealringref04_escape.j1 k x0 x1 bt226.1 (decide (bt226.1 > 57343)))) else (some (0, 0, bt226.2)))) else (some (0, 0, 11)))
def sealringref04_escape.j1 : Nat → ByteArray → Int → Int → Bool → Option (Int × Int × Int)
  | 0, _, _, _, _ => none
  | k + 1, x0, x1, x9, x53 => if x53 = true then (some (x9, 5, 0)) else (if x9 > 56319 then (some (0, 0, 11)) else ((sealringref04_pair.f k x0 (wrap64 (x1 + 5))).bind fun bt228 => (if bt228.2 = 0 then (some (wrap64 ((wrap64 ((wrap64 (65536 + (wrap64 (1024 * (wrap64 (x9 - 55296)))))) + bt228.1)) - 56320), 11, 0)) else (some (0, 0, bt228.2)))))
end
def sealringref04_escape.f (k : Nat) (a0 : ByteArray) (a1 : Int) : Option (Int × Int × Int) := if a1 ≥ (a0.size : Int) then (some (0, 0, 5)) else (if 0 ≤ a1 then (if a1 < (a0.size : Int) then (if (bt a0 a1) = 47 then (some (47, 1, 0)) else (sealringref04_escape.l0 k a0 a1 (bt a0 a1) 0)) else (none)) else (none))
theorem sealringref04_escape.mono_l : ∀ k, (∀ y0 y1 y2 y3, LeO (sealringref04_escape.l0 k y0 y1 y2 y3) (sealringref04_escape.l0 (k + 1) y0 y1 y2 y3)) ∧ (∀ y0 y1 y2 y3, LeO (sealringref04_escape.j1 k y0 y1 y2 y3) (sealringref04_escape.j1 (k + 1) y0 y1 y2 y3))
  | 0 => ⟨fun _ _ _ _ r h => by simp [sealringref04_escape.l0] at h, fun _ _ _ _ r h => by simp [sealringref04_escape.j1] at h⟩
  | k + 1 => by
    obtain ⟨ih0, ih1⟩ := sealringref04_escape.mono_l k
    refine ⟨?_, ?_⟩
    · intro y0 y1 y2 y3
      unfold sealringref04_escape.l0
      repeat' first
      | (with_reducible exact ih0 _ _ _ _)
      | (with_reducible exact ih1 _ _ _ _)
      | (with_reducible exact sealringref04_four.mono _ _ _)
      | (with_reducible exact sealringref04_pair.mono _ _ _)
      | (with_reducible exact sealringref04_small.mono _ _)
      | (with_reducible exact LeO.refl _)
      | (with_reducible exact LeO.none _)
      | (with_reducible refine LeO.ite ?_ ?_)
      | (with_reducible refine LeO.bind ?_ (fun _ => ?_))
      | exact ih0 _ _ _ _
      | exact ih1 _ _ _ _
      | exact sealringref04_four.mono _ _ _
      | exact sealringref04_pair.mono _ _ _
      | exact sealringref04_small.mono _ _
      | exact LeO.none _
      | refine LeO.ite ?_ ?_
      | refine LeO.bind ?_ (fun _ => ?_)
    · intro y0 y1 y2 y3
      unfold sealringref04_escape.j1
      repeat' first
      | (with_reducible exact ih0 _ _ _ _)
      | (with_reducible exact ih1 _ _ _ _)
      | (with_reducible exact sealringref04_four.mono _ _ _)
      | (with_reducible exact sealringref04_pair.mono _ _ _)
      | (with_reducible exact sealringref04_small.mono _ _)
      | (with_reducible exact LeO.refl _)
      | (with_reducible exact LeO.none _)
      | (with_reducible refine LeO.ite ?_ ?_)
      | (with_reducible refine LeO.bind ?_ (fun _ => ?_))
      | exact ih0 _ _ _ _
      | exact ih1 _ _ _ _
      | exact sealringref04_four.mono _ _ _
      | exact sealringref04_pair.mono _ _ _
      | exact sealringref04_small.mono _ _
      | exact LeO.none _
      | refine LeO.ite ?_ ?_
      | refine LeO.bind ?_ (fun _ => ?_)
theorem sealringref04_escape.mono : ∀ a0 a1 k, LeO (sealringref04_escape.f k a0 a1) (sealringref04_escape.f (k + 1) a0 a1) := by
  intro a0 a1 k
  obtain ⟨ih0, ih1⟩ := sealringref04_escape.mono_l k
  unfold sealringref04_escape.f
  repeat' first
      | (with_reducible exact ih0 _ _ _ _)
      | (with_reducible exact ih1 _ _ _ _)
      | (with_reducible exact sealringref04_four.mono _ _ _)
      | (with_reducible exact sealringref04_pair.mono _ _ _)
      | (with_reducible exact sealringref04_small.mono _ _)
      | (with_reducible exact LeO.refl _)
      | (with_reducible exact LeO.none _)
      | (with_reducible refine LeO.ite ?_ ?_)
      | (with_reducible refine LeO.bind ?_ (fun _ => ?_))
      | exact ih0 _ _ _ _
      | exact ih1 _ _ _ _
      | exact sealringref04_four.mono _ _ _
      | exact sealringref04_pair.mono _ _ _
      | exact sealringref04_small.mono _ _
      | exact LeO.none _
      | refine LeO.ite ?_ ?_
      | refine LeO.bind ?_ (fun _ => ?_)
set_option maxHeartbeats 8000000 in
set_option maxRecDepth 100000 in
theorem sealringref04_escape.calls (k : Nat) (a0 : ByteArray) (a1 : Int) (r1 : Int) (r2 : Int) (r3 : Int) (w : World) (h : sealringref04_escape.f k a0 a1 = some (r1, r2, r3)) :
    Calls Try.prog 35 #[.string a0, .int .i64 a1] w fun e w' => e = .returned (.tuple #[.int .i64 r1, .int .i64 r2, .int .i64 r3]) ∧ Drawn0 w w' := by
  have H : (if a1 ≥ (a0.size : Int) then (some (0, 0, 5)) else (if 0 ≤ a1 then (if a1 < (a0.size : Int) then (if (bt a0 a1) = 47 then (some (47, 1, 0)) else (sealringref04_escape.l0 k a0 a1 (bt a0 a1) 0)) else (none)) else (none))) = some (r1, r2, r3) := h
  clear h
  by_cases c3 : a1 ≥ (a0.size : Int)
  · rw [if_pos c3] at H
    have c3b0 : decide ((a0.size : Int) ≤ a1) = true := decide_eq_true c3
    clear c3
    simp only [Option.some.injEq, Prod.mk.injEq] at H
    obtain ⟨rfl, rfl, rfl⟩ := H
    go_enter Try.func35, Try.ntmps35
    go_wp2
    go_ret3
    exact ⟨by first | rfl | (simp; done) | (simp [*]; done), by repeat (first | exact Drawn0.refl _ | apply Drawn0.step)⟩
  · rw [if_neg c3] at H
    have c3b0 : decide ((a0.size : Int) ≤ a1) = false := decide_eq_false c3
    clear c3
    by_cases c4 : 0 ≤ a1
    · rw [if_pos c4] at H
      have c4b0 : decide (0 ≤ a1) = true := decide_eq_true c4
      clear c4
      by_cases c5 : a1 < (a0.size : Int)
      · rw [if_pos c5] at H
        have c5b0 : decide (a1 < (a0.size : Int)) = true := decide_eq_true c5
        clear c5
        by_cases c7 : (bt a0 a1) = 47
        · rw [if_pos c7] at H
          have c7b0 : ((bt a0 a1) == 47) = true := beq_iff_eq.mpr c7
          have c7b1 : ((bt a0 a1) != 47) = false := bne_eq_false_iff_eq.mpr c7
          clear c7
          simp only [Option.some.injEq, Prod.mk.injEq] at H
          obtain ⟨rfl, rfl, rfl⟩ := H
          have p6 : 0 ≤ (a1 : Int) := of_decide_eq_true (by first | (with_reducible assumption) | assumption)
          have q6 : a1 < (a0.size : Int) := of_decide_eq_true (by first | (with_reducible assumption) | assumption)
          have hx6 := bt_at a0 a1
          replace p6 := eq_true p6
          replace q6 := eq_true q6
          go_enter Try.func35, Try.ntmps35
          go_wp2
          go_ret3
          exact ⟨by first | rfl | (simp; done) | (simp [*]; done), by repeat (first | exact Drawn0.refl _ | apply Drawn0.step)⟩
        · rw [if_neg c7] at H
          have c7b0 : ((bt a0 a1) == 47) = false := beq_eq_false_iff_ne.mpr c7
          have c7b1 : ((bt a0 a1) != 47) = true := bne_iff_ne.mpr c7
          have H' := Aside0.mk H
          clear H
          have p6 : 0 ≤ (a1 : Int) := of_decide_eq_true (by first | (with_reducible assumption) | assumption)
          have q6 : a1 < (a0.size : Int) := of_decide_eq_true (by first | (with_reducible assumption) | assumption)
          have hx6 := bt_at a0 a1
          replace p6 := eq_true p6
          replace q6 := eq_true q6
          go_enter Try.func35, Try.ntmps35
          go_wp2
          (try simp only [Go.IntKind.wrap_u8])
          go_loopg [8] k (fun kq v8 w' => ∃ (x8_1 : Int), v8 = .int .i64 x8_1 ∧ Aside0 (sealringref04_escape.l0 kq a0 a1 (bt a0 a1) x8_1 = some (r1, r2, r3)) ∧ Aside0 (kq ≤ k) ∧ Drawn0 w w')
          case atStart => exact ⟨(0), (by first | rfl | (simp; done) | (simp [*]; done) | (simp [wrap64]; done)), (by first | with_reducible exact H' | exact H' | (subst_vars; exact H')), ⟨Nat.le_refl _⟩, by repeat (first | exact Drawn0.refl _ | apply Drawn0.step)⟩
          case round =>
            clear H'
            try clear p2
            try clear c3
            try clear c3b0
            try clear c4
            try clear c4b0
            try clear c5
            try clear c5b0
            try clear p6
            try clear q6
            try clear hx6
            try clear c7
            try clear c7b0
            try clear c7b1
            try clear p6
            try clear q6
            obtain ⟨x8_1, rfl, HA, HK1, ⟨m1, rfl⟩⟩ := hrel
            cases gk with
            | zero => exact absurd HA.out (by simp [sealringref04_escape.l0])
            | succ k1 =>
              have H := HA.out
              clear HA
              simp only [sealringref04_escape.l0] at H
              by_cases c8 : x8_1 < 128
              · rw [if_pos c8] at H
                have c8b0 : decide (x8_1 < 128) = true := decide_eq_true c8
                clear c8
                replace H := Option.bind_eq_some_iff.mp H
                obtain ⟨t224, A90, H⟩ := H
                replace H : (if t224 = 0 then (sealringref04_escape.l0 k1 a0 a1 (bt a0 a1) (wrap64 (x8_1 + 1))) else ((sealringref04_small.f k1 x8_1).bind fun t225 => (if t225 = (bt a0 a1) then (some (x8_1, 1, 0)) else (sealringref04_escape.l0 k1 a0 a1 (bt a0 a1) (wrap64 (x8_1 + 1)))))) = some (r1, r2, r3) := H
                have A9 := Aside0.mk A90
                clear A90
                by_cases c10 : t224 = 0
                · rw [if_pos c10] at H
                  have c10b0 : (t224 == 0) = true := beq_iff_eq.mpr c10
                  have c10b1 : (t224 != 0) = false := bne_eq_false_iff_eq.mpr c10
                  clear c10
                  have H' := Aside0.mk H
                  clear H
                  go_wp2_with (first | ((with_reducible refine gate_callee (f := 42) rfl ?_); refine goesL_ (some 27) rfl rfl Try.func42 (by kernel_rfl) rfl #[.int .i64 x8_1] rfl (by (try simp only [List.map_toArray, List.map_cons, List.map_nil]); first | done | rfl | (simp only [List.length_drop, List.length_take]; rfl)) ?_; (with_reducible refine (sealringref04_small.calls k1 x8_1 t224 _ A9.out).mono ?_); rintro e w' ⟨rfl, ⟨nd, rfl⟩⟩; refine ⟨_, rfl, ?_⟩))
                  go_roundg k1
                  case measure => have := HK1.out; omega
                  case rel => exact ⟨(wrap64 (x8_1 + 1)), (by first | rfl | (simp; done) | (simp [*]; done) | (simp [wrap64]; done)), (by first | with_reducible exact H' | exact H' | (subst_vars; exact H')), ⟨by have := HK1.out; omega⟩, by repeat (first | exact Drawn0.refl _ | apply Drawn0.step)⟩
                · rw [if_neg c10] at H
                  have c10b0 : (t224 == 0) = false := beq_eq_false_iff_ne.mpr c10
                  have c10b1 : (t224 != 0) = true := bne_iff_ne.mpr c10
                  replace H := Option.bind_eq_some_iff.mp H
                  obtain ⟨t225, A110, H⟩ := H
                  replace H : (if t225 = (bt a0 a1) then (some (x8_1, 1, 0)) else (sealringref04_escape.l0 k1 a0 a1 (bt a0 a1) (wrap64 (x8_1 + 1)))) = some (r1, r2, r3) := H
                  have A11 := Aside0.mk A110
                  clear A110
                  have EA11 : t224 = t225 := Option.some.inj (A9.out.symm.trans A11.out)
                  subst EA11
                  by_cases c12 : t224 = (bt a0 a1)
                  · rw [if_pos c12] at H
                    have c12b0 : (t224 == (bt a0 a1)) = true := beq_iff_eq.mpr c12
                    have c12b1 : (t224 != (bt a0 a1)) = false := bne_eq_false_iff_eq.mpr c12
                    clear c12
                    simp only [Option.some.injEq, Prod.mk.injEq] at H
                    obtain ⟨rfl, rfl, rfl⟩ := H
                    go_wp2_with (first | ((with_reducible refine gate_callee (f := 42) rfl ?_); refine goesL_ (some 27) rfl rfl Try.func42 (by kernel_rfl) rfl #[.int .i64 x8_1] rfl (by (try simp only [List.map_toArray, List.map_cons, List.map_nil]); first | done | rfl | (simp only [List.length_drop, List.length_take]; rfl)) ?_; (with_reducible refine (sealringref04_small.calls k1 x8_1 t224 _ A9.out).mono ?_); rintro e w' ⟨rfl, ⟨nd, rfl⟩⟩; refine ⟨_, rfl, ?_⟩) | (go_at_call 42; (with_reducible refine (sealringref04_small.calls k1 x8_1 t224 _ A11.out).mono ?_); rintro e w' ⟨rfl, ⟨nd, rfl⟩⟩))
                    go_ret3
                    exact ⟨by first | rfl | (simp; done) | (simp [*]; done), by repeat (first | exact Drawn0.refl _ | apply Drawn0.step)⟩
                  · rw [if_neg c12] at H
                    have c12b0 : (t224 == (bt a0 a1)) = false := beq_eq_false_iff_ne.mpr c12
                    have c12b1 : (t224 != (bt a0 a1)) = true := bne_iff_ne.mpr c12
                    have H' := Aside0.mk H
                    clear H
                    go_wp2_with (first | ((with_reducible refine gate_callee (f := 42) rfl ?_); refine goesL_ (some 27) rfl rfl Try.func42 (by kernel_rfl) rfl #[.int .i64 x8_1] rfl (by (try simp only [List.map_toArray, List.map_cons, List.map_nil]); first | done | rfl | (simp only [List.length_drop, List.length_take]; rfl)) ?_; (with_reducible refine (sealringref04_small.calls k1 x8_1 t224 _ A9.out).mono ?_); rintro e w' ⟨rfl, ⟨nd, rfl⟩⟩; refine ⟨_, rfl, ?_⟩) | (go_at_call 42; (with_reducible refine (sealringref04_small.calls k1 x8_1 t224 _ A11.out).mono ?_); rintro e w' ⟨rfl, ⟨nd, rfl⟩⟩))
                    go_roundg k1
                    case measure => have := HK1.out; omega
                    case rel => exact ⟨(wrap64 (x8_1 + 1)), (by first | rfl | (simp; done) | (simp [*]; done) | (simp [wrap64]; done)), (by first | with_reducible exact H' | exact H' | (subst_vars; exact H')), ⟨by have := HK1.out; omega⟩, by repeat (first | exact Drawn0.refl _ | apply Drawn0.step)⟩
              · rw [if_neg c8] at H
                have c8b0 : decide (x8_1 < 128) = false := decide_eq_false c8
                clear c8
                by_cases c13 : (bt a0 a1) = 117
                · rw [if_pos c13] at H
                  have c13b0 : ((bt a0 a1) == 117) = true := beq_iff_eq.mpr c13
                  have c13b1 : ((bt a0 a1) != 117) = false := bne_eq_false_iff_eq.mpr c13
                  clear c13
                  replace H := Option.bind_eq_some_iff.mp H
                  obtain ⟨⟨t226, t227⟩, A140, H⟩ := H
                  replace H : (if t227 = 0 then (if t226 < 55296 then (sealringref04_escape.j1 k1 a0 a1 t226 true) else (sealringref04_escape.j1 k1 a0 a1 t226 (decide (t226 > 57343)))) else (some (0, 0, t227))) = some (r1, r2, r3) := H
                  have A14 := Aside0.mk A140
                  clear A140
                  by_cases c15 : t227 = 0
                  · rw [if_pos c15] at H
                    have c15b0 : (t227 == 0) = true := beq_iff_eq.mpr c15
                    have c15b1 : (t227 != 0) = false := bne_eq_false_iff_eq.mpr c15
                    clear c15
                    have HC16 := Aside0.mk H
                    clear H
                    go_upto_region 16 with (first | ((with_reducible refine gate_callee (f := 43) rfl ?_); refine goesL_ (some 42) rfl rfl Try.func43 (by kernel_rfl) rfl #[.string a0, .int .i64 (wrap64 (a1 + 1))] rfl (by (try simp only [List.map_toArray, List.map_cons, List.map_nil]); first | done | rfl | (simp only [List.length_drop, List.length_take]; rfl)) ?_; (with_reducible refine (sealringref04_four.calls k1 a0 (wrap64 (a1 + 1)) t226 t227 _ A14.out).mono ?_); rintro e w' ⟨rfl, ⟨nd, rfl⟩⟩; refine ⟨_, rfl, ?_⟩))
                    (try simp only [Act.put, List.setIfInBounds_toArray, List.set_cons_zero, List.set_cons_succ])
                    go_cut [53] (fun v53 wc => ∃ (kq : Nat) (x53_15 : Bool), v53 = .bool x53_15 ∧ Aside0 (sealringref04_escape.j1 kq a0 a1 t226 x53_15 = some (r1, r2, r3)) ∧ Aside0 (kq ≤ k1) ∧ Drawn0 w wc)
                    case first =>
                      have H := HC16.out
                      clear HC16
                      by_cases c17 : t226 < 55296
                      · rw [if_pos c17] at H
                        have c17b0 : decide (t226 < 55296) = true := decide_eq_true c17
                        clear c17
                        (first | rw [c17b0] | (simp only [i64_w, i32_w]; rw [c17b0]) | skip)
                        have H' := Aside0.mk H
                        clear H
                        go_wp2
                        go_meet
                        case rel => exact ⟨_, (true), (by first | rfl | (simp; done) | (simp [*]; done) | (simp [wrap64]; done)), (by first | with_reducible exact H' | exact H' | (subst_vars; exact H')), ⟨by have := HK1.out; first | omega | exact Nat.le_refl _⟩, by repeat (first | exact Drawn0.refl _ | apply Drawn0.step)⟩
                      · rw [if_neg c17] at H
                        have c17b0 : decide (t226 < 55296) = false := decide_eq_false c17
                        clear c17
                        (first | rw [c17b0] | (simp only [i64_w, i32_w]; rw [c17b0]) | skip)
                        have H' := Aside0.mk H
                        clear H
                        go_wp2
                        go_meet
                        case rel => exact ⟨_, (decide (t226 > 57343)), (by first | rfl | (simp; done) | (simp [*]; done) | (simp [wrap64]; done)), (by first | with_reducible exact H' | exact H' | (subst_vars; exact H')), ⟨by have := HK1.out; first | omega | exact Nat.le_refl _⟩, by repeat (first | exact Drawn0.refl _ | apply Drawn0.step)⟩
                    case rest =>
                      clear HC16
                      try clear c1
                      try clear p2
                      try clear c3
                      try clear c3b0
                      try clear c4
                      try clear c4b0
                      try clear c5
                      try clear c5b0
                      try clear p6
                      try clear q6
                      try clear hx6
                      try clear c7
                      try clear c7b0
                      try clear c7b1
                      try clear c8
                      try clear c8b0
                      try clear c10
                      try clear c10b0
                      try clear c10b1
                      try clear c12
                      try clear c12b0
                      try clear c12b1
                      try clear c13
                      try clear c13b0
                      try clear c13b1
                      try clear c15
                      try clear c15b0
                      try clear c15b1
                      try clear c17
                      try clear c17b0
                      try clear p2
                      try clear p6
                      try clear q6
                      obtain ⟨kq, x53_15, rfl, HA, HJ15, ⟨mc15, rfl⟩⟩ := hcut
                      cases kq with
                      | zero => exact absurd HA.out (by simp [sealringref04_escape.j1])
                      | succ kj15 =>
                        have H := HA.out
                        clear HA
                        simp only [sealringref04_escape.j1] at H
                        by_cases c18 : x53_15 = true
                        · subst c18
                          have H1 : (some (t226, 5, 0)) = some (r1, r2, r3) := by rw [if_pos rfl] at H; exact H
                          clear H
                          have H := H1
                          clear H1
                          simp only [Option.some.injEq, Prod.mk.injEq] at H
                          obtain ⟨rfl, rfl, rfl⟩ := H
                          go_wp2
                          go_ret3
                          exact ⟨by first | rfl | (simp; done) | (simp [*]; done), by repeat (first | exact Drawn0.refl _ | apply Drawn0.step)⟩
                        · replace c18 := Bool.eq_false_iff.mpr c18
                          subst c18
                          have H1 : (if t226 > 56319 then (some (0, 0, 11)) else ((sealringref04_pair.f kj15 a0 (wrap64 (a1 + 5))).bind fun bt228 => (if bt228.2 = 0 then (some (wrap64 ((wrap64 ((wrap64 (65536 + (wrap64 (1024 * (wrap64 (t226 - 55296)))))) + bt228.1)) - 56320), 11, 0)) else (some (0, 0, bt228.2))))) = some (r1, r2, r3) := by rw [if_neg (show ¬ (false = true) by decide)] at H; exact H
                          clear H
                          have H := H1
                          clear H1
                          by_cases c19 : t226 > 56319
                          · rw [if_pos c19] at H
                            have c19b0 : decide (56319 < t226) = true := decide_eq_true c19
                            clear c19
                            simp only [Option.some.injEq, Prod.mk.injEq] at H
                            obtain ⟨rfl, rfl, rfl⟩ := H
                            go_wp2
                            go_ret3
                            exact ⟨by first | rfl | (simp; done) | (simp [*]; done), by repeat (first | exact Drawn0.refl _ | apply Drawn0.step)⟩
                          · rw [if_neg c19] at H
                            have c19b0 : decide (56319 < t226) = false := decide_eq_false c19
                            clear c19
                            replace H := Option.bind_eq_some_iff.mp H
                            obtain ⟨⟨t228, t229⟩, A200, H⟩ := H
                            replace H : (if t229 = 0 then (some (wrap64 ((wrap64 ((wrap64 (65536 + (wrap64 (1024 * (wrap64 (t226 - 55296)))))) + t228)) - 56320), 11, 0)) else (some (0, 0, t229))) = some (r1, r2, r3) := H
                            have A20 := Aside0.mk A200
                            clear A200
                            by_cases c21 : t229 = 0
                            · rw [if_pos c21] at H
                              have c21b0 : (t229 == 0) = true := beq_iff_eq.mpr c21
                              have c21b1 : (t229 != 0) = false := bne_eq_false_iff_eq.mpr c21
                              clear c21
                              simp only [Option.some.injEq, Prod.mk.injEq] at H
                              obtain ⟨rfl, rfl, rfl⟩ := H
                              go_wp2_with (first | ((with_reducible refine gate_callee (f := 44) rfl ?_); refine goesL_ (some 61) rfl rfl Try.func44 (by kernel_rfl) rfl #[.string a0, .int .i64 (wrap64 (a1 + 5))] rfl (by (try simp only [List.map_toArray, List.map_cons, List.map_nil]); first | done | rfl | (simp only [List.length_drop, List.length_take]; rfl)) ?_; (with_reducible refine (sealringref04_pair.calls kj15 a0 (wrap64 (a1 + 5)) t228 t229 _ A20.out).mono ?_); rintro e w' ⟨rfl, ⟨nd, rfl⟩⟩; refine ⟨_, rfl, ?_⟩))
                              go_ret3
                              exact ⟨by first | rfl | (simp; done) | (simp [*]; done), by repeat (first | exact Drawn0.refl _ | apply Drawn0.step)⟩
                            · rw [if_neg c21] at H
                              have c21b0 : (t229 == 0) = false := beq_eq_false_iff_ne.mpr c21
                              have c21b1 : (t229 != 0) = true := bne_iff_ne.mpr c21
                              simp only [Option.some.injEq, Prod.mk.injEq] at H
                              obtain ⟨rfl, rfl, rfl⟩ := H
                              go_wp2_with (first | ((with_reducible refine gate_callee (f := 44) rfl ?_); refine goesL_ (some 61) rfl rfl Try.func44 (by kernel_rfl) rfl #[.string a0, .int .i64 (wrap64 (a1 + 5))] rfl (by (try simp only [List.map_toArray, List.map_cons, List.map_nil]); first | done | rfl | (simp only [List.length_drop, List.length_take]; rfl)) ?_; (with_reducible refine (sealringref04_pair.calls kj15 a0 (wrap64 (a1 + 5)) t228 t229 _ A20.out).mono ?_); rintro e w' ⟨rfl, ⟨nd, rfl⟩⟩; refine ⟨_, rfl, ?_⟩))
                              go_ret3
                              exact ⟨by first | rfl | (simp; done) | (simp [*]; done), by repeat (first | exact Drawn0.refl _ | apply Drawn0.step)⟩
                  · rw [if_neg c15] at H
                    have c15b0 : (t227 == 0) = false := beq_eq_false_iff_ne.mpr c15
                    have c15b1 : (t227 != 0) = true := bne_iff_ne.mpr c15
                    simp only [Option.some.injEq, Prod.mk.injEq] at H
                    obtain ⟨rfl, rfl, rfl⟩ := H
                    go_wp2_with (first | ((with_reducible refine gate_callee (f := 43) rfl ?_); refine goesL_ (some 42) rfl rfl Try.func43 (by kernel_rfl) rfl #[.string a0, .int .i64 (wrap64 (a1 + 1))] rfl (by (try simp only [List.map_toArray, List.map_cons, List.map_nil]); first | done | rfl | (simp only [List.length_drop, List.length_take]; rfl)) ?_; (with_reducible refine (sealringref04_four.calls k1 a0 (wrap64 (a1 + 1)) t226 t227 _ A14.out).mono ?_); rintro e w' ⟨rfl, ⟨nd, rfl⟩⟩; refine ⟨_, rfl, ?_⟩))
                    go_ret3
                    exact ⟨by first | rfl | (simp; done) | (simp [*]; done), by repeat (first | exact Drawn0.refl _ | apply Drawn0.step)⟩
                · rw [if_neg c13] at H
                  have c13b0 : ((bt a0 a1) == 117) = false := beq_eq_false_iff_ne.mpr c13
                  have c13b1 : ((bt a0 a1) != 117) = true := bne_iff_ne.mpr c13
                  simp only [Option.some.injEq, Prod.mk.injEq] at H
                  obtain ⟨rfl, rfl, rfl⟩ := H
                  go_wp2
                  go_ret3
                  exact ⟨by first | rfl | (simp; done) | (simp [*]; done), by repeat (first | exact Drawn0.refl _ | apply Drawn0.step)⟩
      · rw [if_neg c5] at H
        exact absurd H (by simp)
    · rw [if_neg c4] at H
      exact absurd H (by simp)
end Go.Proofs.Ytijfbnkohnlmaaa.X
end
section
namespace Go.Proofs.Ytijfbnkohnlmaaa.X
open Go.RowKit Go.Proofs.YtijfbnkohnlmaaaW.PrintWords Go.Proofs.YtijfbnkohnlmaaaW.PrintLast Go.Proofs.YtijfbnkohnlmaaaW.PrintMore
attribute [local go_sem] max2_int min2_int max_two min_two max_three min_three max_four min_four
set_option linter.unusedVariables false
set_option linter.unusedSimpArgs false
mutual
def sealringref04_Unquote.j0 : Nat → ByteArray → Int → Bool → Option (ByteArray × Int × Int)
  | 0, _, _, _ => none
  | k + 1, x0, x1, x19 => if x19 = true then (some ((⟨#[]⟩ : ByteArray), 0, 1)) else (if x1 = (x0.size : Int) then (some ((⟨#[]⟩ : ByteArray), 0, 5)) else (if 0 ≤ x1 then (if x1 < (x0.size : Int) then (if (bt x0 x1) = 34 then (sealringref04_Unquote.l0 k x0 (⟨#[]⟩ : ByteArray) (wrap64 (x1 + 1))) else (some ((⟨#[]⟩ : ByteArray), 0, 6))) else (none)) else (none)))
def sealringref04_Unquote.l0 : Nat → ByteArray → ByteArray → Int → Option (ByteArray × Int × Int)
  | 0, _, _, _ => none
  | k + 1, x0, x7, x8 => if x8 < (x0.size : Int) then (if 0 ≤ x8 then (sealringref04_Unquote.j2 k x0 x7 x8 ((bt x0 x8) != 34)) else (none)) else (sealringref04_Unquote.j2 k x0 x7 x8 false)
def sealringref04_Unquote.j2 : Nat → ByteArray → ByteArray → Int → Bool → Option (ByteArray × Int × Int)
  | 0, _, _, _, _ => none
  | k + 1, x0, x7, x8, x39 => if x39 = true then (if 0 ≤ x8 then (if x8 < (x0.size : Int) then (if (bt x0 x8) < 32 then (some ((⟨#[]⟩ : ByteArray), 0, 6)) else ((sealringref03_Next.f k x0 x8).bind fun bt230 => (if (bt x0 x8) = 92 then ((sealringref04_escape.f k x0 (wrap64 (x8 + 1))).bind fun bt232 => (sealringref04_Unquote.j3 k x0 x7 x8 bt232.1 (wrap64 (bt232.2.1 + 1)) bt232.2.2)) else (sealringref04_Unquote.j3 k x0 x7 x8 bt230.1 bt230.2 0)))) else (none)) else (none)) else (if x8 ≥ (x0.size : Int) then (some ((⟨#[]⟩ : ByteArray), 0, 5)) else (some (x7, wrap64 (x8 + 1), 0)))
def sealringref04_Unquote.j3 : Nat → ByteArray → ByteArray → Int → Int → Int → Int → Option (ByteArray × Int × Int)
  | 0, _, _, _, _, _, _ => none
  | k + 1, x0, x7, x8, x9, x10, x11 => if x11 = 0 then (if x10 = 0 then (some ((⟨#[]⟩ : ByteArray), 0, 10)) else ((sealringref03_Form.f x9).bind fun t235 => (if x7.size + t235.size ≤ 9223372036854775807 then (sealringref04_Unquote.l0 k x0 (x7 ++ t235) (wrap64 (x8 + x10))) else (none)))) else (some ((⟨#[]⟩ : ByteArray), 0, x11))
end
def sealringref04_Unquote.f (k : Nat) (a0 : ByteArray) (a1 : Int) : Option (ByteArray × Int × Int) := if a1 < 0 then (sealringref04_Unquote.j0 k a0 a1 true) else (sealringref04_Unquote.j0 k a0 a1 (decide (a1 > (a0.size : Int))))
theorem sealringref04_Unquote.mono_l : ∀ k, (∀ y0 y1 y2, LeO (sealringref04_Unquote.j0 k y0 y1 y2) (sealringref04_Unquote.j0 (k + 1) y0 y1 y2)) ∧ (∀ y0 y1 y2, LeO (sealringref04_Unquote.l0 k y0 y1 y2) (sealringref04_Unquote.l0 (k + 1) y0 y1 y2)) ∧ (∀ y0 y1 y2 y3, LeO (sealringref04_Unquote.j2 k y0 y1 y2 y3) (sealringref04_Unquote.j2 (k + 1) y0 y1 y2 y3)) ∧ (∀ y0 y1 y2 y3 y4 y5, LeO (sealringref04_Unquote.j3 k y0 y1 y2 y3 y4 y5) (sealringref04_Unquote.j3 (k + 1) y0 y1 y2 y3 y4 y5))
  | 0 => ⟨fun _ _ _ r h => by simp [sealringref04_Unquote.j0] at h, fun _ _ _ r h => by simp [sealringref04_Unquote.l0] at h, fun _ _ _ _ r h => by simp [sealringref04_Unquote.j2] at h, fun _ _ _ _ _ _ r h => by simp [sealringref04_Unquote.j3] at h⟩
  | k + 1 => by
    obtain ⟨ih0, ih1, ih2, ih3⟩ := sealringref04_Unquote.mono_l k
    refine ⟨?_, ?_, ?_, ?_⟩
    · intro y0 y1 y2
      unfold sealringref04_Unquote.j0
      repeat' first
      | (with_reducible exact ih0 _ _ _)
      | (with_reducible exact ih1 _ _ _)
      | (with_reducible exact ih2 _ _ _ _)
      | (with_reducible exact ih3 _ _ _ _ _ _)
      | (with_reducible exact sealringref03_Next.mono _ _ _)
      | (with_reducible exact sealringref04_escape.mono _ _ _)
      | (with_reducible exact LeO.refl _)
      | (with_reducible exact LeO.none _)
      | (with_reducible refine LeO.ite ?_ ?_)
      | (with_reducible refine LeO.bind ?_ (fun _ => ?_))
      | exact ih0 _ _ _
      | exact ih1 _ _ _
      | exact ih2 _ _ _ _
      | exact ih3 _ _ _ _ _ _
      | exact sealringref03_Next.mono _ _ _
      | exact sealringref04_escape.mono _ _ _
      | exact LeO.none _
      | refine LeO.ite ?_ ?_
      | refine LeO.bind ?_ (fun _ => ?_)
    · intro y0 y1 y2
      unfold sealringref04_Unquote.l0
      repeat' first
      | (with_reducible exact ih0 _ _ _)
      | (with_reducible exact ih1 _ _ _)
      | (with_reducible exact ih2 _ _ _ _)
      | (with_reducible exact ih3 _ _ _ _ _ _)
      | (with_reducible exact sealringref03_Next.mono _ _ _)
      | (with_reducible exact sealringref04_escape.mono _ _ _)
      | (with_reducible exact LeO.refl _)
      | (with_reducible exact LeO.none _)
      | (with_reducible refine LeO.ite ?_ ?_)
      | (with_reducible refine LeO.bind ?_ (fun _ => ?_))
      | exact ih0 _ _ _
      | exact ih1 _ _ _
      | exact ih2 _ _ _ _
      | exact ih3 _ _ _ _ _ _
      | exact sealringref03_Next.mono _ _ _
      | exact sealringref04_escape.mono _ _ _
      | exact LeO.none _
      | refine LeO.ite ?_ ?_
      | refine LeO.bind ?_ (fun _ => ?_)
    · intro y0 y1 y2 y3
      unfold sealringref04_Unquote.j2
      repeat' first
      | (with_reducible exact ih0 _ _ _)
      | (with_reducible exact ih1 _ _ _)
      | (with_reducible exact ih2 _ _ _ _)
      | (with_reducible exact ih3 _ _ _ _ _ _)
      | (with_reducible exact sealringref03_Next.mono _ _ _)
      | (with_reducible exact sealringref04_escape.mono _ _ _)
      | (with_reducible exact LeO.refl _)
      | (with_reducible exact LeO.none _)
      | (with_reducible refine LeO.ite ?_ ?_)
      | (with_reducible refine LeO.bind ?_ (fun _ => ?_))
      | exact ih0 _ _ _
      | exact ih1 _ _ _
      | exact ih2 _ _ _ _
      | exact ih3 _ _ _ _ _ _
      | exact sealringref03_Next.mono _ _ _
      | exact sealringref04_escape.mono _ _ _
      | exact LeO.none _
      | refine LeO.ite ?_ ?_
      | refine LeO.bind ?_ (fun _ => ?_)
    · intro y0 y1 y2 y3 y4 y5
      unfold sealringref04_Unquote.j3
      repeat' first
      | (with_reducible exact ih0 _ _ _)
      | (with_reducible exact ih1 _ _ _)
      | (with_reducible exact ih2 _ _ _ _)
      | (with_reducible exact ih3 _ _ _ _ _ _)
      | (with_reducible exact sealringref03_Next.mono _ _ _)
      | (with_reducible exact sealringref04_escape.mono _ _ _)
      | (with_reducible exact LeO.refl _)
      | (with_reducible exact LeO.none _)
      | (with_reducible refine LeO.ite ?_ ?_)
      | (with_reducible refine LeO.bind ?_ (fun _ => ?_))
      | exact ih0 _ _ _
      | exact ih1 _ _ _
      | exact ih2 _ _ _ _
      | exact ih3 _ _ _ _ _ _
      | exact sealringref03_Next.mono _ _ _
      | exact sealringref04_escape.mono _ _ _
      | exact LeO.none _
      | refine LeO.ite ?_ ?_
      | refine LeO.bind ?_ (fun _ => ?_)
theorem sealringref04_Unquote.mono : ∀ a0 a1 k, LeO (sealringref04_Unquote.f k a0 a1) (sealringref04_Unquote.f (k + 1) a0 a1) := by
  intro a0 a1 k
  obtain ⟨ih0, ih1, ih2, ih3⟩ := sealringref04_Unquote.mono_l k
  unfold sealringref04_Unquote.f
  repeat' first
      | (with_reducible exact ih0 _ _ _)
      | (with_reducible exact ih1 _ _ _)
      | (with_reducible exact ih2 _ _ _ _)
      | (with_reducible exact ih3 _ _ _ _ _ _)
      | (with_reducible exact sealringref03_Next.mono _ _ _)
      | (with_reducible exact sealringref04_escape.mono _ _ _)
      | (with_reducible exact LeO.refl _)
      | (with_reducible exact LeO.none _)
      | (with_reducible refine LeO.ite ?_ ?_)
      | (with_reducible refine LeO.bind ?_ (fun _ => ?_))
      | exact ih0 _ _ _
      | exact ih1 _ _ _
      | exact ih2 _ _ _ _
      | exact ih3 _ _ _ _ _ _
      | exact sealringref03_Next.mono _ _ _
      | exact sealringref04_escape.mono _ _ _
      | exact LeO.none _
      | refine LeO.ite ?_ ?_
      | refine LeO.bind ?_ (fun _ => ?_)
set_option maxHeartbeats 8000000 in
set_option maxRecDepth 100000 in
theorem sealringref04_Unquote.calls (k : Nat) (a0 : ByteArray) (a1 : Int) (r1 : ByteArray) (r2 : Int) (r3 : Int) (w : World) (h : sealringref04_Unquote.f k a0 a1 = some (r1, r2, r3)) :
    Calls Try.prog 23 #[.string a0, .int .i64 a1] w fun e w' => e = .returned (.tuple #[.string r1, .int .i64 r2, .int .i64 r3]) ∧ Below w.heap.size w w' := by
  have HB := Aside0.mk (Below.refl w.heap.size w)
  have H : (if a1 < 0 then (sealringref04_Unquote.j0 k a0 a1 true) else (sealringref04_Unquote.j0 k a0 a1 (decide (a1 > (a0.size : Int))))) = some (r1, r2, r3) := h
  clear h
  have HC3 := Aside0.mk H
  clear H
  go_enter Try.func23, Try.ntmps23
  go_upto_region 1 with (fail)
  go_cut [19] (fun v19 wc => ∃ (kq : Nat) (x19_2 : Bool), v19 = .bool x19_2 ∧ Aside0 (sealringref04_Unquote.j0 kq a0 a1 x19_2 = some (r1, r2, r3)) ∧ Aside0 (kq ≤ k) ∧ Aside0 (Below w.heap.size w wc))
  case first =>
    have H := HC3.out
    clear HC3
    by_cases c4 : a1 < 0
    · rw [if_pos c4] at H
      have c4b0 : decide (a1 < 0) = true := decide_eq_true c4
      clear c4
      (first | rw [c4b0] | (simp only [i64_w, i32_w]; rw [c4b0]) | skip)
      have H' := Aside0.mk H
      clear H
      go_wp2
      go_meet
      case rel => exact ⟨_, (true), (by first | rfl | (simp; done) | (simp [*]; done) | (simp [wrap64]; done)), (by first | with_reducible exact H' | exact H' | (subst_vars; exact H')), ⟨by first | omega | exact Nat.le_refl _⟩, ⟨by repeat (first | (with_reducible first | exact HB.out | apply below_alloc | apply pw_below_drewN | apply below_drew1) | exact HB.out)⟩⟩
    · rw [if_neg c4] at H
      have c4b0 : decide (a1 < 0) = false := decide_eq_false c4
      clear c4
      (first | rw [c4b0] | (simp only [i64_w, i32_w]; rw [c4b0]) | skip)
      have H' := Aside0.mk H
      clear H
      go_wp2
      go_meet
      case rel => exact ⟨_, (decide (a1 > (a0.size : Int))), (by first | rfl | (simp; done) | (simp [*]; done) | (simp [wrap64]; done)), (by first | with_reducible exact H' | exact H' | (subst_vars; exact H')), ⟨by first | omega | exact Nat.le_refl _⟩, ⟨by repeat (first | (with_reducible first | exact HB.out | apply below_alloc | apply pw_below_drewN | apply below_drew1) | exact HB.out)⟩⟩
  case rest =>
    clear HC3
    try clear c2
    try clear p2
    try clear c4
    try clear c4b0
    obtain ⟨kq, x19_2, rfl, HA, HJ2, HB⟩ := hcut
    cases kq with
    | zero => exact absurd HA.out (by simp [sealringref04_Unquote.j0])
    | succ kj2 =>
      have H := HA.out
      clear HA
      simp only [sealringref04_Unquote.j0] at H
      by_cases c5 : x19_2 = true
      · subst c5
        have H1 : (some ((⟨#[]⟩ : ByteArray), 0, 1)) = some (r1, r2, r3) := by rw [if_pos rfl] at H; exact H
        clear H
        have H := H1
        clear H1
        simp only [Option.some.injEq, Prod.mk.injEq] at H
        obtain ⟨rfl, rfl, rfl⟩ := H
        go_wp2
        go_ret3
        exact ⟨by first | rfl | (simp [errW_none, errW_some] <;> rfl) | (simp [*, errW_none, errW_some] <;> rfl), by repeat (first | (with_reducible first | exact HB.out | apply below_alloc | apply pw_below_drewN | apply below_drew1) | exact HB.out)⟩
      · replace c5 := Bool.eq_false_iff.mpr c5
        subst c5
        have H1 : (if a1 = (a0.size : Int) then (some ((⟨#[]⟩ : ByteArray), 0, 5)) else (if 0 ≤ a1 then (if a1 < (a0.size : Int) then (if (bt a0 a1) = 34 then (sealringref04_Unquote.l0 kj2 a0 (⟨#[]⟩ : ByteArray) (wrap64 (a1 + 1))) else (some ((⟨#[]⟩ : ByteArray), 0, 6))) else (none)) else (none))) = some (r1, r2, r3) := by rw [if_neg (show ¬ (false = true) by decide)] at H; exact H
        clear H
        have H := H1
        clear H1
        by_cases c6 : a1 = (a0.size : Int)
        · rw [if_pos c6] at H
          have c6b0 : (a1 == (a0.size : Int)) = true := beq_iff_eq.mpr c6
          have c6b1 : (a1 != (a0.size : Int)) = false := bne_eq_false_iff_eq.mpr c6
          clear c6
          simp only [Option.some.injEq, Prod.mk.injEq] at H
          obtain ⟨rfl, rfl, rfl⟩ := H
          go_wp2
          go_ret3
          exact ⟨by first | rfl | (simp [errW_none, errW_some] <;> rfl) | (simp [*, errW_none, errW_some] <;> rfl), by repeat (first | (with_reducible first | exact HB.out | apply below_alloc | apply pw_below_drewN | apply below_drew1) | exact HB.out)⟩
        · rw [if_neg c6] at H
          have c6b0 : (a1 == (a0.size : Int)) = false := beq_eq_false_iff_ne.mpr c6
          have c6b1 : (a1 != (a0.size : Int)) = true := bne_iff_ne.mpr c6
          by_cases c7 : 0 ≤ a1
          · rw [if_pos c7] at H
            have c7b0 : decide (0 ≤ a1) = true := decide_eq_true c7
            clear c7
            by_cases c8 : a1 < (a0.size : Int)
            · rw [if_pos c8] at H
              have c8b0 : decide (a1 < (a0.size : Int)) = true := decide_eq_true c8
              clear c8
              by_cases c10 : (bt a0 a1) = 34
              · rw [if_pos c10] at H
                have c10b0 : ((bt a0 a1) == 34) = true := beq_iff_eq.mpr c10
                have c10b1 : ((bt a0 a1) != 34) = false := bne_eq_false_iff_eq.mpr c10
                clear c10
                have H' := Aside0.mk H
                clear H
                have p9 : 0 ≤ (a1 : Int) := of_decide_eq_true (by first | (with_reducible assumption) | assumption)
                have q9 : a1 < (a0.size : Int) := of_decide_eq_true (by first | (with_reducible assumption) | assumption)
                have hx9 := bt_at a0 a1
                replace p9 := eq_true p9
                replace q9 := eq_true q9
                go_wp2
                (try simp only [Go.IntKind.wrap_u8])
                go_loopg [7, 8] kj2 (fun kq v7 v8 w' => ∃ (x7_2 : ByteArray) (x8_2 : Int), v7 = .string x7_2 ∧ v8 = .int .i64 x8_2 ∧ Aside0 (sealringref04_Unquote.l0 kq a0 x7_2 x8_2 = some (r1, r2, r3)) ∧ Aside0 (kq ≤ kj2) ∧ Aside0 (Below w.heap.size w w'))
                case atStart => exact ⟨((⟨#[]⟩ : ByteArray)), (wrap64 (a1 + 1)), (by first | rfl | (simp; done) | (simp [*]; done) | (simp [wrap64]; done)), (by first | rfl | (simp; done) | (simp [*]; done) | (simp [wrap64]; done)), (by first | with_reducible exact H' | exact H' | (subst_vars; exact H')), ⟨Nat.le_refl _⟩, ⟨by repeat (first | (with_reducible first | exact HB.out | apply below_alloc | apply pw_below_drewN | apply below_drew1) | exact HB.out)⟩⟩
                case round =>
                  clear H'
                  try clear c1
                  try clear c2
                  try clear p2
                  try clear c4
                  try clear c4b0
                  try clear c5
                  try clear c6
                  try clear c6b0
                  try clear c6b1
                  try clear p6
                  try clear c7
                  try clear c7b0
                  try clear c8
                  try clear c8b0
                  try clear p9
                  try clear q9
                  try clear hx9
                  try clear c10
                  try clear c10b0
                  try clear c10b1
                  try clear p2
                  try clear p9
                  try clear q9
                  obtain ⟨x7_2, x8_2, rfl, rfl, HA, HK2, HB⟩ := hrel
                  cases gk with
                  | zero => exact absurd HA.out (by simp [sealringref04_Unquote.l0])
                  | succ k2 =>
                    have H := HA.out
                    clear HA
                    simp only [sealringref04_Unquote.l0] at H
                    have HC11 := Aside0.mk H
                    clear H
                    go_upto_region 9 with (fail)
                    go_cut [39] (fun v39 wc => ∃ (kq : Nat) (x39_10 : Bool), v39 = .bool x39_10 ∧ Aside0 (sealringref04_Unquote.j2 kq a0 x7_2 x8_2 x39_10 = some (r1, r2, r3)) ∧ Aside0 (kq ≤ k2) ∧ Aside0 (Below w.heap.size w wc))
                    case first =>
                      have H := HC11.out
                      clear HC11
                      by_cases c12 : x8_2 < (a0.size : Int)
                      · rw [if_pos c12] at H
                        have c12b0 : decide (x8_2 < (a0.size : Int)) = true := decide_eq_true c12
                        clear c12
                        (first | rw [c12b0] | (simp only [i64_w, i32_w]; rw [c12b0]) | skip)
                        by_cases c13 : 0 ≤ x8_2
                        · rw [if_pos c13] at H
                          have c13b0 : decide (0 ≤ x8_2) = true := decide_eq_true c13
                          clear c13
                          have H' := Aside0.mk H
                          clear H
                          have p14 : 0 ≤ (x8_2 : Int) := of_decide_eq_true (by first | (with_reducible assumption) | assumption)
                          have q14 : x8_2 < (a0.size : Int) := of_decide_eq_true (by first | (with_reducible assumption) | assumption)
                          have hx14 := bt_at a0 x8_2
                          replace p14 := eq_true p14
                          replace q14 := eq_true q14
                          go_wp2
                          go_meet
                          case rel => exact ⟨_, (((bt a0 x8_2) != 34)), (by first | rfl | (simp; done) | (simp [*]; done) | (simp [wrap64]; done)), (by first | with_reducible exact H' | exact H' | (subst_vars; exact H')), ⟨by have := HJ2.out; have := HK2.out; first | omega | exact Nat.le_refl _⟩, ⟨by repeat (first | (with_reducible first | exact HB.out | apply below_alloc | apply pw_below_drewN | apply below_drew1) | exact HB.out)⟩⟩
                        · rw [if_neg c13] at H
                          exact absurd H (by simp)
                      · rw [if_neg c12] at H
                        have c12b0 : decide (x8_2 < (a0.size : Int)) = false := decide_eq_false c12
                        clear c12
                        (first | rw [c12b0] | (simp only [i64_w, i32_w]; rw [c12b0]) | skip)
                        have H' := Aside0.mk H
                        clear H
                        go_wp2
                        go_meet
                        case rel => exact ⟨_, (false), (by first | rfl | (simp; done) | (simp [*]; done) | (simp [wrap64]; done)), (by first | with_reducible exact H' | exact H' | (subst_vars; exact H')), ⟨by have := HJ2.out; have := HK2.out; first | omega | exact Nat.le_refl _⟩, ⟨by repeat (first | (with_reducible first | exact HB.out | apply below_alloc | apply pw_below_drewN | apply below_drew1) | exact HB.out)⟩⟩
                    case rest =>
                      clear HC11
                      try clear c1
                      try clear p1
                      try clear q1
                      try clear hx1
                      try clear c2
                      try clear p2
                      try clear c4
                      try clear c4b0
                      try clear c5
                      try clear c6
                      try clear c6b0
                      try clear c6b1
                      try clear p6
                      try clear c7
                      try clear c7b0
                      try clear c8
                      try clear c8b0
                      try clear p9
                      try clear q9
                      try clear hx9
                      try clear c10
                      try clear c10b0
                      try clear c10b1
                      try clear c12
                      try clear c12b0
                      try clear c13
                      try clear c13b0
                      try clear p14
                      try clear q14
                      try clear hx14
                      try clear p14
                      try clear p2
                      try clear p6
                      try clear p9
                      try clear q14
                      try clear q9
                      obtain ⟨kq, x39_10, rfl, HA, HJ10, HB⟩ := hcut
                      cases kq with
                      | zero => exact absurd HA.out (by simp [sealringref04_Unquote.j2])
                      | succ kj10 =>
                        have H := HA.out
                        clear HA
                        simp only [sealringref04_Unquote.j2] at H
                        by_cases c15 : x39_10 = true
                        · subst c15
                          have H1 : (if 0 ≤ x8_2 then (if x8_2 < (a0.size : Int) then (if (bt a0 x8_2) < 32 then (some ((⟨#[]⟩ : ByteArray), 0, 6)) else ((sealringref03_Next.f kj10 a0 x8_2).bind fun bt230 => (if (bt a0 x8_2) = 92 then ((sealringref04_escape.f kj10 a0 (wrap64 (x8_2 + 1))).bind fun bt232 => (sealringref04_Unquote.j3 kj10 a0 x7_2 x8_2 bt232.1 (wrap64 (bt232.2.1 + 1)) bt232.2.2)) else (sealringref04_Unquote.j3 kj10 a0 x7_2 x8_2 bt230.1 bt230.2 0)))) else (none)) else (none)) = some (r1, r2, r3) := by rw [if_pos rfl] at H; exact H
                          clear H
                          have H := H1
                          clear H1
                          by_cases c16 : 0 ≤ x8_2
                          · rw [if_pos c16] at H
                            have c16b0 : decide (0 ≤ x8_2) = true := decide_eq_true c16
                            clear c16
                            by_cases c17 : x8_2 < (a0.size : Int)
                            · rw [if_pos c17] at H
                              have c17b0 : decide (x8_2 < (a0.size : Int)) = true := decide_eq_true c17
                              clear c17
                              by_cases c19 : (bt a0 x8_2) < 32
                              · rw [if_pos c19] at H
                                have c19b0 : decide ((bt a0 x8_2) < 32) = true := decide_eq_true c19
                                clear c19
                                simp only [Option.some.injEq, Prod.mk.injEq] at H
                                obtain ⟨rfl, rfl, rfl⟩ := H
                                have p18 : 0 ≤ (x8_2 : Int) := of_decide_eq_true (by first | (with_reducible assumption) | assumption)
                                have q18 : x8_2 < (a0.size : Int) := of_decide_eq_true (by first | (with_reducible assumption) | assumption)
                                have hx18 := bt_at a0 x8_2
                                replace p18 := eq_true p18
                                replace q18 := eq_true q18
                                go_wp2
                                go_ret3
                                exact ⟨by first | rfl | (simp [errW_none, errW_some] <;> rfl) | (simp [*, errW_none, errW_some] <;> rfl), by repeat (first | (with_reducible first | exact HB.out | apply below_alloc | apply pw_below_drewN | apply below_drew1) | exact HB.out)⟩
                              · rw [if_neg c19] at H
                                have c19b0 : decide ((bt a0 x8_2) < 32) = false := decide_eq_false c19
                                clear c19
                                replace H := Option.bind_eq_some_iff.mp H
                                obtain ⟨⟨t230, t231⟩, A200, H⟩ := H
                                replace H : (if (bt a0 x8_2) = 92 then ((sealringref04_escape.f kj10 a0 (wrap64 (x8_2 + 1))).bind fun bt232 => (sealringref04_Unquote.j3 kj10 a0 x7_2 x8_2 bt232.1 (wrap64 (bt232.2.1 + 1)) bt232.2.2)) else (sealringref04_Unquote.j3 kj10 a0 x7_2 x8_2 t230 t231 0)) = some (r1, r2, r3) := H
                                have A20 := Aside0.mk A200
                                clear A200
                                have HC22 := Aside0.mk H
                                clear H
                                have p18 : 0 ≤ (x8_2 : Int) := of_decide_eq_true (by first | (with_reducible assumption) | assumption)
                                have q18 : x8_2 < (a0.size : Int) := of_decide_eq_true (by first | (with_reducible assumption) | assumption)
                                have hx18 := bt_at a0 x8_2
                                replace p18 := eq_true p18
                                replace q18 := eq_true q18
                                go_upto_if 53 with (first | ((with_reducible refine gate_callee (f := 16) rfl ?_); refine goesL_ (some 47) rfl rfl Try.func16 (by kernel_rfl) rfl #[.string a0, .int .i64 x8_2] rfl (by (try simp only [List.map_toArray, List.map_cons, List.map_nil]); first | done | rfl | (simp only [List.length_drop, List.length_take]; rfl)) ?_; (with_reducible refine (sealringref03_Next.calls kj10 a0 x8_2 t230 t231 _ A20.out).mono ?_); rintro e w23 ⟨rfl, hb⟩; refine ⟨_, rfl, ?_⟩; have n0_ := Aside0.mk (below_step (by repeat (first | (with_reducible first | exact HB.out | apply below_alloc | apply pw_below_drewN | apply below_drew1) | exact HB.out)) hb); clear HB; have HB := n0_; clear n0_; (try clear hb); (try clear hb2); (try clear hk); (try clear hi); have p21 : 0 ≤ (x8_2 : Int) := of_decide_eq_true (by first | (with_reducible assumption) | assumption); have q21 : x8_2 < (a0.size : Int) := of_decide_eq_true (by first | (with_reducible assumption) | assumption); have hx21 := bt_at a0 x8_2; replace p21 := eq_true p21; replace q21 := eq_true q21))
                                (try simp only [Act.put, List.setIfInBounds_toArray, List.set_cons_zero, List.set_cons_succ])
                                go_cut [9, 10, 11] (fun v9 v10 v11 wc => ∃ (kq : Nat) (x9_21 : Int) (x10_21 : Int) (x11_21 : Int), v9 = .int .i64 x9_21 ∧ v10 = .int .i64 x10_21 ∧ v11 = .int .i64 x11_21 ∧ Aside0 (sealringref04_Unquote.j3 kq a0 x7_2 x8_2 x9_21 x10_21 x11_21 = some (r1, r2, r3)) ∧ Aside0 (kq ≤ kj10) ∧ Aside0 (Below w.heap.size w wc))
                                case first =>
                                  have H := HC22.out
                                  clear HC22
                                  by_cases c24 : (bt a0 x8_2) = 92
                                  · rw [if_pos c24] at H
                                    have c24b0 : ((bt a0 x8_2) == 92) = true := beq_iff_eq.mpr c24
                                    have c24b1 : ((bt a0 x8_2) != 92) = false := bne_eq_false_iff_eq.mpr c24
                                    clear c24
                                    (first | rw [c24b0] | (simp only [i64_w, i32_w]; rw [c24b0]) | skip)
                                    replace H := Option.bind_eq_some_iff.mp H
                                    obtain ⟨⟨t232, t233, t234⟩, A250, H⟩ := H
                                    replace H : (sealringref04_Unquote.j3 kj10 a0 x7_2 x8_2 t232 (wrap64 (t233 + 1)) t234) = some (r1, r2, r3) := H
                                    have A25 := Aside0.mk A250
                                    clear A250
                                    have H' := Aside0.mk H
                                    clear H
                                    go_wp2_with (first | ((with_reducible refine gate_callee (f := 35) rfl ?_); refine goesL_ (some 58) rfl rfl Try.func35 (by kernel_rfl) rfl #[.string a0, .int .i64 (wrap64 (x8_2 + 1))] rfl (by (try simp only [List.map_toArray, List.map_cons, List.map_nil]); first | done | rfl | (simp only [List.length_drop, List.length_take]; rfl)) ?_; (with_reducible refine (sealringref04_escape.calls kj10 a0 (wrap64 (x8_2 + 1)) t232 t233 t234 _ A25.out).mono ?_); rintro e w' ⟨rfl, ⟨nd, rfl⟩⟩; refine ⟨_, rfl, ?_⟩))
                                    go_meet
                                    case rel => exact ⟨_, (t232), (wrap64 (t233 + 1)), (t234), (by first | rfl | (simp; done) | (simp [*]; done) | (simp [wrap64]; done)), (by first | rfl | (simp; done) | (simp [*]; done) | (simp [wrap64]; done)), (by first | rfl | (simp; done) | (simp [*]; done) | (simp [wrap64]; done)), (by first | with_reducible exact H' | exact H' | (subst_vars; exact H')), ⟨by have := HJ2.out; have := HK2.out; have := HJ10.out; first | omega | exact Nat.le_refl _⟩, ⟨by repeat (first | (with_reducible first | exact HB.out | apply below_alloc | apply pw_below_drewN | apply below_drew1) | exact HB.out)⟩⟩
                                  · rw [if_neg c24] at H
                                    have c24b0 : ((bt a0 x8_2) == 92) = false := beq_eq_false_iff_ne.mpr c24
                                    have c24b1 : ((bt a0 x8_2) != 92) = true := bne_iff_ne.mpr c24
                                    (first | rw [c24b0] | (simp only [i64_w, i32_w]; rw [c24b0]) | skip)
                                    have H' := Aside0.mk H
                                    clear H
                                    go_wp2
                                    go_meet
                                    case rel => exact ⟨_, (t230), (t231), (0), (by first | rfl | (simp; done) | (simp [*]; done) | (simp [wrap64]; done)), (by first | rfl | (simp; done) | (simp [*]; done) | (simp [wrap64]; done)), (by first | rfl | (simp; done) | (simp [*]; done) | (simp [wrap64]; done)), (by first | with_reducible exact H' | exact H' | (subst_vars; exact H')), ⟨by have := HJ2.out; have := HK2.out; have := HJ10.out; first | omega | exact Nat.le_refl _⟩, ⟨by repeat (first | (with_reducible first | exact HB.out | apply below_alloc | apply pw_below_drewN | apply below_drew1) | exact HB.out)⟩⟩
                                case rest =>
                                  clear HC22
                                  try clear c1
                                  try clear p1
                                  try clear q1
                                  try clear hx1
                                  try clear c2
                                  try clear p2
                                  try clear q2
                                  try clear hx2
                                  try clear c3
                                  try clear c4
                                  try clear c4b0
                                  try clear c5
                                  try clear c6
                                  try clear c6b0
                                  try clear c6b1
                                  try clear p6
                                  try clear c7
                                  try clear c7b0
                                  try clear c8
                                  try clear c8b0
                                  try clear p9
                                  try clear q9
                                  try clear hx9
                                  try clear c10
                                  try clear c10b0
                                  try clear c10b1
                                  try clear c12
                                  try clear c12b0
                                  try clear c13
                                  try clear c13b0
                                  try clear p14
                                  try clear q14
                                  try clear hx14
                                  try clear c15
                                  try clear c16
                                  try clear c16b0
                                  try clear c17
                                  try clear c17b0
                                  try clear p18
                                  try clear q18
                                  try clear hx18
                                  try clear c19
                                  try clear c19b0
                                  try clear p21
                                  try clear q21
                                  try clear hx21
                                  try clear c23
                                  try clear c24
                                  try clear c24b0
                                  try clear c24b1
                                  try clear p1
                                  try clear p14
                                  try clear p18
                                  try clear p2
                                  try clear p21
                                  try clear p6
                                  try clear p9
                                  try clear q1
                                  try clear q14
                                  try clear q18
                                  try clear q21
                                  try clear q9
                                  obtain ⟨kq, x9_21, x10_21, x11_21, rfl, rfl, rfl, HA, HJ21, HB⟩ := hcut
                                  cases kq with
                                  | zero => exact absurd HA.out (by simp [sealringref04_Unquote.j3])
                                  | succ kj21 =>
                                    have H := HA.out
                                    clear HA
                                    simp only [sealringref04_Unquote.j3] at H
                                    by_cases c26 : x11_21 = 0
                                    · rw [if_pos c26] at H
                                      have c26b0 : (x11_21 == 0) = true := beq_iff_eq.mpr c26
                                      have c26b1 : (x11_21 != 0) = false := bne_eq_false_iff_eq.mpr c26
                                      clear c26
                                      by_cases c27 : x10_21 = 0
                                      · rw [if_pos c27] at H
                                        have c27b0 : (x10_21 == 0) = true := beq_iff_eq.mpr c27
                                        have c27b1 : (x10_21 != 0) = false := bne_eq_false_iff_eq.mpr c27
                                        clear c27
                                        simp only [Option.some.injEq, Prod.mk.injEq] at H
                                        obtain ⟨rfl, rfl, rfl⟩ := H
                                        go_wp2
                                        go_ret3
                                        exact ⟨by first | rfl | (simp [errW_none, errW_some] <;> rfl) | (simp [*, errW_none, errW_some] <;> rfl), by repeat (first | (with_reducible first | exact HB.out | apply below_alloc | apply pw_below_drewN | apply below_drew1) | exact HB.out)⟩
                                      · rw [if_neg c27] at H
                                        have c27b0 : (x10_21 == 0) = false := beq_eq_false_iff_ne.mpr c27
                                        have c27b1 : (x10_21 != 0) = true := bne_iff_ne.mpr c27
                                        replace H := Option.bind_eq_some_iff.mp H
                                        obtain ⟨t235, A280, H⟩ := H
                                        replace H : (if x7_2.size + t235.size ≤ 9223372036854775807 then (sealringref04_Unquote.l0 kj21 a0 (x7_2 ++ t235) (wrap64 (x8_2 + x10_21))) else (none)) = some (r1, r2, r3) := H
                                        have A28 := Aside0.mk A280
                                        clear A280
                                        by_cases c29 : x7_2.size + t235.size ≤ 9223372036854775807
                                        · rw [if_pos c29] at H
                                          have c29b0 := eq_true c29
                                          have c29b1 : decide (x7_2.size + t235.size ≤ 9223372036854775807) = true := decide_eq_true c29
                                          try have c29b2 : (9223372036854775807 < x7_2.size + t235.size) = False := eq_false (Nat.not_lt.2 c29)
                                          have H' := Aside0.mk H
                                          clear H
                                          go_wp2_with (first | ((with_reducible refine gate_callee (f := 12) rfl ?_); refine goesL_ (some 71) rfl rfl Try.func12 (by kernel_rfl) rfl #[.int .i64 x9_21] rfl (by (try simp only [List.map_toArray, List.map_cons, List.map_nil]); first | done | rfl | (simp only [List.length_drop, List.length_take]; rfl)) ?_; (with_reducible refine (sealringref03_Form.calls x9_21 t235 _ A28.out).mono ?_); rintro e w30 ⟨rfl, hb⟩; refine ⟨_, rfl, ?_⟩; have n0_ := Aside0.mk (below_step (by repeat (first | (with_reducible first | exact HB.out | apply below_alloc | apply pw_below_drewN | apply below_drew1) | exact HB.out)) hb); clear HB; have HB := n0_; clear n0_; (try clear hb); (try clear hb2); (try clear hk); (try clear hi)))
                                          go_roundg kj21
                                          case measure => have := HJ2.out; have := HK2.out; have := HJ10.out; have := HJ21.out; omega
                                          case rel => exact ⟨(x7_2 ++ t235), (wrap64 (x8_2 + x10_21)), (by first | rfl | (simp; done) | (simp [*]; done) | (simp [wrap64]; done)), (by first | rfl | (simp; done) | (simp [*]; done) | (simp [wrap64]; done)), (by first | with_reducible exact H' | exact H' | (subst_vars; exact H')), ⟨by have := HJ2.out; have := HK2.out; have := HJ10.out; have := HJ21.out; omega⟩, ⟨by repeat (first | (with_reducible first | exact HB.out | apply below_alloc | apply pw_below_drewN | apply below_drew1) | exact HB.out)⟩⟩
                                        · rw [if_neg c29] at H
                                          exact absurd H (by simp)
                                    · rw [if_neg c26] at H
                                      have c26b0 : (x11_21 == 0) = false := beq_eq_false_iff_ne.mpr c26
                                      have c26b1 : (x11_21 != 0) = true := bne_iff_ne.mpr c26
                                      simp only [Option.some.injEq, Prod.mk.injEq] at H
                                      obtain ⟨rfl, rfl, rfl⟩ := H
                                      go_wp2
                                      go_ret3
                                      exact ⟨by first | rfl | (simp [errW_none, errW_some] <;> rfl) | (simp [*, errW_none, errW_some] <;> rfl), by repeat (first | (with_reducible first | exact HB.out | apply below_alloc | apply pw_below_drewN | apply below_drew1) | exact HB.out)⟩
                            · rw [if_neg c17] at H
                              exact absurd H (by simp)
                          · rw [if_neg c16] at H
                            exact absurd H (by simp)
                        · replace c15 := Bool.eq_false_iff.mpr c15
                          subst c15
                          have H1 : (if x8_2 ≥ (a0.size : Int) then (some ((⟨#[]⟩ : ByteArray), 0, 5)) else (some (x7_2, wrap64 (x8_2 + 1), 0))) = some (r1, r2, r3) := by rw [if_neg (show ¬ (false = true) by decide)] at H; exact H
                          clear H
                          have H := H1
                          clear H1
                          by_cases c31 : x8_2 ≥ (a0.size : Int)
                          · rw [if_pos c31] at H
                            have c31b0 : decide ((a0.size : Int) ≤ x8_2) = true := decide_eq_true c31
                            clear c31
                            simp only [Option.some.injEq, Prod.mk.injEq] at H
                            obtain ⟨rfl, rfl, rfl⟩ := H
                            go_wp2
                            go_ret3
                            exact ⟨by first | rfl | (simp [errW_none, errW_some] <;> rfl) | (simp [*, errW_none, errW_some] <;> rfl), by repeat (first | (with_reducible first | exact HB.out | apply below_alloc | apply pw_below_drewN | apply below_drew1) | exact HB.out)⟩
                          · rw [if_neg c31] at H
                            have c31b0 : decide ((a0.size : Int) ≤ x8_2) = false := decide_eq_false c31
                            clear c31
                            simp only [Option.some.injEq, Prod.mk.injEq] at H
                            obtain ⟨rfl, rfl, rfl⟩ := H
                            go_wp2
                            go_ret3
                            exact ⟨by first | rfl | (simp [errW_none, errW_some] <;> rfl) | (simp [*, errW_none, errW_some] <;> rfl), by repeat (first | (with_reducible first | exact HB.out | apply below_alloc | apply pw_below_drewN | apply below_drew1) | exact HB.out)⟩
              · rw [if_neg c10] at H
                have c10b0 : ((bt a0 a1) == 34) = false := beq_eq_false_iff_ne.mpr c10
                have c10b1 : ((bt a0 a1) != 34) = true := bne_iff_ne.mpr c10
                simp only [Option.some.injEq, Prod.mk.injEq] at H
                obtain ⟨rfl, rfl, rfl⟩ := H
                have p9 : 0 ≤ (a1 : Int) := of_decide_eq_true (by first | (with_reducible assumption) | assumption)
                have q9 : a1 < (a0.size : Int) := of_decide_eq_true (by first | (with_reducible assumption) | assumption)
                have hx9 := bt_at a0 a1
                replace p9 := eq_true p9
                replace q9 := eq_true q9
                go_wp2
                go_ret3
                exact ⟨by first | rfl | (simp [errW_none, errW_some] <;> rfl) | (simp [*, errW_none, errW_some] <;> rfl), by repeat (first | (with_reducible first | exact HB.out | apply below_alloc | apply pw_below_drewN | apply below_drew1) | exact HB.out)⟩
            · rw [if_neg c8] at H
              exact absurd H (by simp)
          · rw [if_neg c7] at H
            exact absurd H (by simp)
end Go.Proofs.Ytijfbnkohnlmaaa.X
end
section
namespace Go.Proofs.Ytijfbnkohnlmaaa.X
open Go.RowKit Go.Proofs.YtijfbnkohnlmaaaW.PrintWords Go.Proofs.YtijfbnkohnlmaaaW.PrintLast Go.Proofs.YtijfbnkohnlmaaaW.PrintMore
set_option linter.unusedVariables false
set_option linter.unusedSimpArgs false
def smallP (n : Int) : Int := if n = 34 ∨ n = 92 then n else if n = 8 then 98 else if n = 9 then 116 else if n = 10 then 110 else if n = 12 then 102 else if n = 13 then 114 else 0
theorem small_ev (n : Int) : Ev (fun k => sealringref04_small.f k n) (smallP n) := by
  unfold sealringref04_small.f
  by_cases c1 : n = 34
  · refine evPos c1 (Ev.step (f := fun _ => some 34) (fun k => ?_) ?_)
    · rw [sealringref04_small.j0, if_pos rfl, c1]; rfl
    · subst c1; exact Ev.now _
  · refine evNeg c1 ?_
    by_cases c2 : n = 92
    · refine Ev.step (f := fun _ => some 92) (fun k => ?_) ?_
      · rw [sealringref04_small.j0, if_pos (by simp [c2]), c2]; rfl
      · subst c2; exact Ev.now _
    · refine Ev.step (f := fun _ => some (smallP n)) (fun k => ?_) (Ev.now _)
      rw [sealringref04_small.j0, if_neg (by simp [c2])]
      unfold smallP
      rw [if_neg (show ¬ (n = 34 ∨ n = 92) by omega)]
      repeat' split
      all_goals rfl
section
variable (t : ByteArray)
end
end Go.Proofs.Ytijfbnkohnlmaaa.X
end
section
namespace Go.Proofs.Ytijfbnkohnlmaaa.X
open Go.RowKit Go.Proofs.YtijfbnkohnlmaaaW.PrintWords Go.Proofs.YtijfbnkohnlmaaaW.PrintLast Go.Proofs.YtijfbnkohnlmaaaW.PrintMore
set_option linter.unusedVariables false
set_option linter.unusedSimpArgs false
theorem son_app (a b : List Int) : strOfNums a ++ strOfNums b = strOfNums (a ++ b) := by
  apply ByteArray.ext
  simp [strOfNums, ByteArray.data_append]
theorem lives04 : Ev (fun k => sealringlaw04_lives.f k) true := Ev.of sealringlaw04_lives.mono (k := 60) (by kernel_rfl)
end Go.Proofs.Ytijfbnkohnlmaaa.X
end
section
namespace Go.Proofs.Ytijfbnkohnlmaaa.X
open Go.RowKit Go.Proofs.YtijfbnkohnlmaaaW.PrintWords Go.Proofs.YtijfbnkohnlmaaaW.PrintLast Go.Proofs.YtijfbnkohnlmaaaW.PrintMore
set_option linter.unusedVariables false
set_option linter.unusedSimpArgs false
def hexC (d : Int) : Int := if d < 10 then 48 + d else 87 + d
def digB : ByteArray := ⟨#[48, 49, 50, 51, 52, 53, 54, 55, 56, 57, 97, 98, 99, 100, 101, 102]⟩
theorem digB_at : ∀ d : Fin 16, bt digB (d.val : Int) = hexC (d.val : Int) := by decide +kernel
theorem hexC_at {d : Int} (h0 : 0 ≤ d) (h1 : d < 16) : bt digB d = hexC d := by
  have := digB_at ⟨d.toNat, by omega⟩
  simp only at this
  rwa [show ((d.toNat : Nat) : Int) = d by omega] at this
theorem and15 : ∀ c : Fin 256, Go.bits .and .u8 (c.val : Int) 15 = (c.val : Int) % 16 := by decide +kernel
theorem and15' {c : Int} (h0 : 0 ≤ c) (h1 : c ≤ 255) : Go.bits .and .u8 c 15 = c % 16 := by
  have := and15 ⟨c.toNat, by omega⟩
  simp only at this
  rwa [show ((c.toNat : Nat) : Int) = c by omega] at this
theorem letter_ev (c : Int) (h0 : 0 ≤ c) (h1 : c ≤ 255) : Ev (fun k => esc_letter.f k c) (smallP c) := by
  unfold esc_letter.f
  by_cases c1 : c = 34
  · refine evPos c1 (Ev.step (f := fun _ => some 34) (fun k => ?_) ?_)
    · rw [esc_letter.j0, if_pos (by simp [c1]), c1]; rfl
    · subst c1; exact Ev.now _
  · refine evNeg c1 ?_
    by_cases c2 : c = 92
    · refine Ev.step (f := fun _ => some 92) (fun k => ?_) ?_
      · rw [esc_letter.j0, if_pos (by simp [c2]), c2]; rfl
      · subst c2; exact Ev.now _
    · refine Ev.step (f := fun _ => some (smallP c)) (fun k => ?_) (Ev.now _)
      rw [esc_letter.j0, if_neg (by simp [c2])]
      unfold smallP
      rw [if_neg (show ¬ (c = 34 ∨ c = 92) by omega)]
      repeat' split
      all_goals rfl
def qb (c : Int) : List Int := if smallP c = 0 then (if c < 32 then [92, 117, 48, 48, hexC (c / 16), hexC (c % 16)] else [c]) else [92, smallP c]
def oneL (n : Int) : List Int := if smallP n = 0 then (if n < 32 then [92, 117, 48, 48, hexC (n / 16), hexC (n % 16)] else formL n) else [92, smallP n]
theorem qb_len (c : Int) : 1 ≤ (qb c).length ∧ (qb c).length ≤ 6 := by
  unfold qb
  repeat' split
  all_goals simp
theorem oneL_len (c : Int) : 1 ≤ (oneL c).length ∧ (oneL c).length ≤ 6 := by
  unfold oneL
  have := formL_le c
  repeat' split
  all_goals first | omega | (simp; done)
def bl (s : ByteArray) : Nat → Nat → List Int
  | 0, _ => []
  | d + 1, i => bt s (i : Int) :: bl s d (i + 1)
theorem bl_len (s : ByteArray) : ∀ d i, (bl s d i).length = d
  | 0, _ => rfl
  | d + 1, i => by rw [bl, List.length_cons, bl_len s d]
theorem bl_append (s : ByteArray) : ∀ n m i, bl s (n + m) i = bl s n i ++ bl s m (i + n)
  | 0, m, i => by simp [bl]
  | n + 1, m, i => by
    rw [show n + 1 + m = (n + m) + 1 by omega, bl, bl, bl_append s n m (i + 1), show i + 1 + n = i + (n + 1) by omega]
    rfl
section
variable (s : ByteArray) (hs : s.size ≤ 17592186044000)
include hs
theorem Quote_go : ∀ (d i : Nat) (acc : List Int), d + i = s.size → acc.length ≤ 6 * i + 1 → Ev (fun k => esc_Quote.l0 k s acc (s.size : Int) (i : Int)) (strOfNums (acc ++ (bl s d i).flatMap qb ++ [34]), 0) := by
  intro d
  induction d with
  | zero =>
    intro i acc hi ha
    refine Ev.step (f := fun _ => some (strOfNums (acc ++ [34]), 0)) (fun k => ?_) ?_
    · rw [esc_Quote.l0, if_neg (by omega), if_pos (by omega)]
    · simpa [bl] using Ev.now (strOfNums (acc ++ [34]), (0 : Int))
  | succ d ih =>
    intro i acc hi ha
    have bb := bt_range s (i : Int)
    have hw : wrap32 (bt s (i : Int)) = bt s (i : Int) := by unfold wrap32; omega
    have hn := ih (i + 1) (acc ++ qb (bt s (i : Int))) (by omega) (by have := (qb_len (bt s (i : Int))).2; rw [List.length_append]; omega)
    have hgoal : strOfNums (acc ++ (bl s (d + 1) i).flatMap qb ++ [34]) = strOfNums (acc ++ qb (bt s (i : Int)) ++ (bl s d (i + 1)).flatMap qb ++ [34]) := by simp [bl]
    rw [hgoal]
    have hwi : wrap64 ((i : Int) + 1) = ((i + 1 : Nat) : Int) := w64s i (by omega)
    refine Ev.step (f := fun k => (esc_letter.f k (bt s (i : Int))).bind fun t197 => (if t197 = 0 then (if (bt s (i : Int)) < 32 then (if 0 ≤ ((bt s (i : Int)) / 16) then (if ((bt s (i : Int)) / 16) < 16 then (if 0 ≤ (Go.bits .and .u8 (bt s (i : Int)) 15) then (if (Go.bits .and .u8 (bt s (i : Int)) 15) < 16 then ((some (([92, 117, 48, 48, bt digB ((bt s (i : Int)) / 16), bt digB (Go.bits .and .u8 (bt s (i : Int)) 15)] : List Int) : List Int)).bind fun y198 => (if acc.length + y198.length < 140737488355328 then (esc_Quote.l0 k s (acc ++ y198) (s.size : Int) (wrap64 ((i : Int) + 1))) else (none))) else (none)) else (none)) else (none)) else (none)) else (if acc.length < 140737488355328 then (esc_Quote.l0 k s (acc ++ [bt s (i : Int)]) (s.size : Int) (wrap64 ((i : Int) + 1))) else (none))) else ((some (([92, t197] : List Int) : List Int)).bind fun y207 => (if acc.length + y207.length < 140737488355328 then (esc_Quote.l0 k s (acc ++ y207) (s.size : Int) (wrap64 ((i : Int) + 1))) else (none))))) (fun k => ?_) ?_
    · rw [esc_Quote.l0, if_pos (by omega), if_pos (by omega), if_pos (by omega), hw]
      rfl
    · refine Ev.bind (letter_ev _ bb.1 bb.2) ?_
      rw [hwi]
      unfold qb at hn
      unfold qb
      generalize bt s (i : Int) = c at *
      by_cases c1 : smallP c = 0
      · rw [if_pos c1] at hn ⊢
        refine evPos c1 ?_
        by_cases c2 : c < 32
        · rw [if_pos c2] at hn ⊢
          rw [and15' bb.1 bb.2, hexC_at (d := c / 16) (by omega) (by omega), hexC_at (d := c % 16) (by omega) (by omega)]
          refine evPos c2 (evPos (by omega) (evPos (by omega) (evPos (by omega) (evPos (by omega) ?_))))
          exact evPos (by simp; omega) hn
        · rw [if_neg c2] at hn ⊢
          exact evNeg c2 (evPos (by omega) hn)
      · rw [if_neg c1] at hn ⊢
        exact evNeg c1 (evPos (by simp; omega) hn)
def quoteS (s : ByteArray) : ByteArray × Int := if endOf s = s.size then (strOfNums ([34] ++ (bl s s.size 0).flatMap qb ++ [34]), 0) else (⟨#[]⟩, 10)
theorem Quote_ev : Ev (fun k => esc_Quote.f k s) (quoteS s) := by
  unfold esc_Quote.f quoteS
  refine Ev.bind (Valid_ev s (by omega)) ?_
  by_cases c : endOf s = s.size
  · rw [if_pos c]
    exact evPos (decide_eq_true c) (Quote_go s hs s.size 0 [34] (by omega) (by simp))
  · rw [if_neg c]
    exact evNeg (by simp [c]) (Ev.now _)
theorem Size_go : ∀ (d i n : Nat), d + i = s.size → n ≤ 200000000000000 + 6 * i → Ev (fun k => esc_Size.l0 k s (n : Int) (s.size : Int) (i : Int)) (((n + ((bl s d i).flatMap qb).length - d : Nat)) : Int) := by
  intro d
  induction d with
  | zero =>
    intro i n hi hn
    refine Ev.step (f := fun _ => some (n : Int)) (fun k => ?_) ?_
    · rw [esc_Size.l0, if_neg (by omega)]
    · simpa [bl] using Ev.now (n : Int)
  | succ d ih =>
    intro i n hi hn
    have bb := bt_range s (i : Int)
    have hw : wrap32 (bt s (i : Int)) = bt s (i : Int) := by unfold wrap32; omega
    have hwi : wrap64 ((i : Int) + 1) = ((i + 1 : Nat) : Int) := w64s i (by omega)
    have hl : ((bl s (d + 1) i).flatMap qb).length = (qb (bt s (i : Int))).length + ((bl s d (i + 1)).flatMap qb).length := by simp [bl]
    have hq := qb_len (bt s (i : Int))
    have hd : d ≤ ((bl s d (i + 1)).flatMap qb).length := by
      have : ∀ l : List Int, l.length ≤ (l.flatMap qb).length := by
        intro l
        induction l with
        | nil => simp
        | cons x l ihl => have := (qb_len x).1; rw [List.flatMap_cons, List.length_append, List.length_cons]; omega
      have h := this (bl s d (i + 1))
      rwa [bl_len] at h
    rw [hl]
    refine Ev.step (f := fun k => (esc_letter.f k (bt s (i : Int))).bind fun t294 => (if t294 = 0 then (if (bt s (i : Int)) < 32 then (esc_Size.l0 k s (wrap64 ((n : Int) + 5)) (s.size : Int) (wrap64 ((i : Int) + 1))) else (esc_Size.l0 k s (n : Int) (s.size : Int) (wrap64 ((i : Int) + 1)))) else (esc_Size.l0 k s (wrap64 ((n : Int) + 1)) (s.size : Int) (wrap64 ((i : Int) + 1))))) (fun k => ?_) ?_
    · rw [esc_Size.l0, if_pos (by omega), if_pos (by omega), if_pos (by omega), hw]
    · refine Ev.bind (letter_ev _ bb.1 bb.2) ?_
      rw [hwi, show wrap64 ((n : Int) + 5) = ((n + 5 : Nat) : Int) by rw [w64 (by omega) (by omega)]; rfl, show wrap64 ((n : Int) + 1) = ((n + 1 : Nat) : Int) from w64s n (by omega)]
      have ih0 := ih (i + 1) n (by omega) (by omega)
      have ih1 := ih (i + 1) (n + 1) (by omega) (by omega)
      have ih5 := ih (i + 1) (n + 5) (by omega) (by omega)
      generalize ((bl s d (i + 1)).flatMap qb).length = L at *
      unfold qb
      generalize bt s (i : Int) = c at *
      by_cases c1 : smallP c = 0
      · rw [if_pos c1]
        refine evPos c1 ?_
        by_cases c2 : c < 32
        · rw [if_pos c2]
          refine evPos c2 ?_
          simp only [List.length_cons, List.length_nil]
          rw [show n + (0 + 1 + 1 + 1 + 1 + 1 + 1 + L) - (d + 1) = n + 5 + L - d by omega]
          exact ih5
        · rw [if_neg c2]
          refine evNeg c2 ?_
          simp only [List.length_cons, List.length_nil]
          rw [show n + (0 + 1 + L) - (d + 1) = n + L - d by omega]
          exact ih0
      · rw [if_neg c1]
        refine evNeg c1 ?_
        simp only [List.length_cons, List.length_nil]
        rw [show n + (0 + 1 + 1 + L) - (d + 1) = n + 1 + L - d by omega]
        exact ih1
theorem Size_ev : Ev (fun k => esc_Size.f k s) ((quoteS s).1.size : Int) := by
  unfold esc_Size.f quoteS
  refine Ev.bind (Valid_ev s (by omega)) ?_
  by_cases c : endOf s = s.size
  · rw [if_pos c]
    refine evPos (decide_eq_true c) ?_
    have h := Size_go s hs s.size 0 (2 + s.size) (by omega) (by omega)
    rw [show wrap64 (2 + (s.size : Int)) = ((2 + s.size : Nat) : Int) by rw [w64 (by omega) (by omega)]; rfl]
    have e : (strOfNums ([34] ++ (bl s s.size 0).flatMap qb ++ [34])).size = 2 + s.size + ((bl s s.size 0).flatMap qb).length - s.size := by
      rw [son_size]; simp; omega
    show Ev _ (((strOfNums ([34] ++ (bl s s.size 0).flatMap qb ++ [34])).size : Nat) : Int)
    rw [e]
    exact h
  · rw [if_neg c]
    exact evNeg (by simp [c]) (Ev.now _)
end
theorem rHex_ev (n : Int) (h0 : 0 ≤ n) (h1 : n < 256) : Ev (fun k => sealringref01_Hex.f k (strOfNums ([0, n % 256] : List Int))) (strOfNums [48, 48, hexC (n / 16), hexC (n % 16)]) := by
  have hz : (strOfNums ([0, n % 256] : List Int)).size = 2 := by rw [son_size]; rfl
  have b0 : bt (strOfNums ([0, n % 256] : List Int)) 0 = 0 := son_bt [0, n % 256] 0 (by simp) ⟨by simp, by simp⟩
  have b1 : bt (strOfNums ([0, n % 256] : List Int)) 1 = n % 256 := son_bt [0, n % 256] 1 (by simp) (by constructor <;> simp <;> omega)
  have dg : ∀ d : Int, 0 ≤ d → d < 16 → sealringref01_digit.f d = some (hexC d) := fun d h0 h1 => by
    unfold sealringref01_digit.f hexC
    split
    · congr 1; omega
    · congr 1; omega
  unfold sealringref01_Hex.f
  generalize strOfNums ([0, n % 256] : List Int) = X at hz b0 b1 ⊢
  have w01 : wrap64 ((0 : Int) + 1) = 1 := w64 (by omega) (by omega)
  have w12 : wrap64 ((1 : Int) + 1) = 2 := w64 (by omega) (by omega)
  refine Ev.step (f := fun k => sealringref01_Hex.l0 k X [48, 48] 1) (fun k => ?_) (Ev.step (f := fun k => sealringref01_Hex.l0 k X [48, 48, hexC (n / 16), hexC (n % 16)] 2) (fun k => ?_) (Ev.step (f := fun _ => some (strOfNums [48, 48, hexC (n / 16), hexC (n % 16)])) (fun k => ?_) (Ev.now _)))
  · rw [sealringref01_Hex.l0, if_pos (by omega), if_pos (by omega), b0, show Int.tdiv 0 16 % 256 = 0 by decide, show Int.tmod 0 16 = 0 by decide, dg 0 (by omega) (by omega)]
    simp only [Option.bind_some]
    rw [if_pos (by simp), w01]
    rfl
  · rw [sealringref01_Hex.l0, if_pos (by omega), if_pos (by omega), b1, show n % 256 = n by omega, Int.tdiv_eq_ediv_of_nonneg h0, Int.tmod_eq_emod_of_nonneg h0, show n / 16 % 256 = n / 16 by omega, dg _ (by omega) (by omega), dg _ (by omega) (by omega)]
    simp only [Option.bind_some]
    rw [if_pos (by simp), w12]
    rfl
  · rw [sealringref01_Hex.l0, if_neg (by omega)]
theorem one_ev (n : Int) (hv : isv n = true) : Ev (fun k => sealringref04_one.f k n) (strOfNums (oneL n)) := by
  have hr := isv_iff.1 hv
  unfold sealringref04_one.f oneL
  refine Ev.bind (small_ev n) ?_
  by_cases c1 : smallP n = 0
  · rw [if_pos c1]
    refine evPos c1 ?_
    by_cases c2 : n < 32
    · rw [if_pos c2]
      refine evPos c2 ?_
      refine Ev.bind (g := fun _ => some [92, 117]) (Ev.now _) (Ev.bind (rHex_ev n hr.1 (by omega)) ?_)
      refine evPos (by rw [son_size, son_size]; simp) ?_
      rw [son_app]
      exact Ev.now _
    · rw [if_neg c2]
      refine evNeg c2 ?_
      rw [Form_f n hr.1 (by omega)]
      exact Ev.now _
  · rw [if_neg c1]
    exact evNeg c1 (Ev.bind (small_ev n) (Ev.now _))
theorem rQuote_go (l : List Int) (hl : l.length ≤ 17592186044000) (hall : l.all isv = true) : ∀ (r acc : List Int) (i : Nat), l.drop i = r → i + r.length = l.length → acc.length ≤ 6 * i + 1 → Ev (fun k => sealringref04_Quote.l0 k l (strOfNums acc) (i : Int)) (strOfNums (acc ++ r.flatMap oneL ++ [34]), 0) := by
  intro r
  induction r with
  | nil =>
    intro acc i hd hi ha
    simp only [List.length_nil, Nat.add_zero] at hi
    refine Ev.step (f := fun _ => some (strOfNums (acc ++ [34]), 0)) (fun k => ?_) ?_
    · rw [sealringref04_Quote.l0, if_neg (by omega)]
      show (if (strOfNums acc).size + (strOfNums [34]).size ≤ 9223372036854775807 then some (strOfNums acc ++ strOfNums [34], 0) else none) = _
      rw [if_pos (by rw [son_size, son_size]; simp; omega), son_app]
    · simpa using Ev.now (strOfNums (acc ++ [34]), (0 : Int))
  | cons v r ih =>
    intro acc i hd hi ha
    simp only [List.length_cons] at hi
    have h2 := List.drop_eq_getElem_cons (show i < l.length by omega)
    rw [hd] at h2
    obtain ⟨e1, e2⟩ := List.cons.inj h2
    have hrd : rd l (i : Int) = v := by
      unfold rd
      rw [show ((i : Int)).toNat = i from rfl, List.getD_eq_getElem?_getD, List.getElem?_eq_getElem (by omega)]
      exact e1.symm
    have hv : isv v = true := by rw [e1]; exact List.all_eq_true.1 hall _ (List.getElem_mem _)
    have ho := oneL_len v
    have hn := ih (acc ++ oneL v) (i + 1) e2.symm (by omega) (by rw [List.length_append]; omega)
    refine Ev.step (f := fun k => (sealringref04_one.f k v).bind fun t289 => (if (strOfNums acc).size + t289.size ≤ 9223372036854775807 then (sealringref04_Quote.l0 k l (strOfNums acc ++ t289) (wrap64 ((i : Int) + 1))) else (none))) (fun k => ?_) ?_
    · rw [sealringref04_Quote.l0, if_pos (by omega), if_pos (by omega), hrd]
    · refine Ev.bind (one_ev v hv) (evPos (by rw [son_size, son_size]; omega) ?_)
      rw [son_app, w64s i (by omega)]
      simpa [List.append_assoc] using hn
theorem bl_form {s : ByteArray} {a : Nat} {v : Int} {n : Nat} (h : dec s a = some (v, n)) : bl s n a = formL v ∧ (formL v).length = n := by
  obtain ⟨h1, h2, h3, h4⟩ := dec_form h
  unfold formL
  rcases h4 with ⟨rfl, p, q, e⟩ | ⟨rfl, p, q, e, e1⟩ | ⟨rfl, p, q, e, e1, e2⟩ | ⟨rfl, p, q, e, e1, e2, e3⟩
  · rw [if_pos q]
    show [bt s (a : Int)] = _ ∧ _
    rw [e]; exact ⟨rfl, rfl⟩
  · rw [if_neg (by omega), if_pos q]
    show [bt s (a : Int), bt s ((a + 1 : Nat) : Int)] = _ ∧ _
    rw [e, e1]; exact ⟨rfl, rfl⟩
  · rw [if_neg (by omega), if_neg (by omega), if_pos q]
    show [bt s (a : Int), bt s ((a + 1 : Nat) : Int), bt s ((a + 2 : Nat) : Int)] = _ ∧ _
    rw [e, e1, e2]; exact ⟨rfl, rfl⟩
  · rw [if_neg (by omega), if_neg (by omega), if_neg (by omega)]
    show [bt s (a : Int), bt s ((a + 1 : Nat) : Int), bt s ((a + 2 : Nat) : Int), bt s ((a + 3 : Nat) : Int)] = _ ∧ _
    rw [e, e1, e2, e3]; exact ⟨rfl, rfl⟩
theorem dec_isv {s : ByteArray} {a : Nat} {v : Int} {n : Nat} (h : dec s a = some (v, n)) : isv v = true := by
  have hdf := dec_form h
  have hdr := dec_range h
  have := (isv_sz v).2
  by_cases hv : isv v = true
  · exact hv
  · exact absurd (this (by simpa using hv)) (by omega)
theorem decs_isv (s : ByteArray) : ∀ (f a : Nat), ((decs s f a).1.map (·.2)).all isv = true
  | 0, a => rfl
  | f + 1, a => by
    cases hd : dec s a with
    | none => simp only [decs, hd]; rfl
    | some vn =>
      obtain ⟨v, n⟩ := vn
      have h1 := decs_isv s f (a + n)
      simp only [decs, hd, List.map_cons, List.all_cons, h1, dec_isv hd, Bool.and_self]
theorem decs_bl (s : ByteArray) : ∀ (f a : Nat), (decs s f a).2 = a + ((putL ((decs s f a).1.map (·.2))).length) ∧ bl s ((putL ((decs s f a).1.map (·.2))).length) a = putL ((decs s f a).1.map (·.2))
  | 0, a => ⟨rfl, rfl⟩
  | f + 1, a => by
    cases hd : dec s a with
    | none => simp only [decs, hd]; exact ⟨rfl, rfl⟩
    | some vn =>
      obtain ⟨v, n⟩ := vn
      obtain ⟨h1, h2⟩ := decs_bl s f (a + n)
      obtain ⟨h3, h4⟩ := bl_form hd
      simp only [decs, hd, List.map_cons, putL_cons, List.length_append, h4]
      refine ⟨by rw [h1]; omega, ?_⟩
      rw [bl_append, h3, h2]
def codes (s : ByteArray) : List Int := (allOf s).map (·.2)
theorem codes_isv (s : ByteArray) : (codes s).all isv = true := decs_isv s _ _
theorem valid_bl {s : ByteArray} (h : endOf s = s.size) : bl s s.size 0 = putL (codes s) := by
  have := decs_bl s (s.size + 1) 0
  unfold endOf at h
  rw [h] at this
  obtain ⟨h1, h2⟩ := this
  rw [Nat.zero_add] at h1
  unfold codes allOf
  rw [← h1] at h2
  exact h2
theorem qb_high {c : Int} (h : 128 ≤ c) : qb c = [c] := by
  unfold qb smallP
  rw [if_neg (show ¬ (c = 34 ∨ c = 92) by omega), if_neg (show ¬ c = 8 by omega), if_neg (show ¬ c = 9 by omega), if_neg (show ¬ c = 10 by omega), if_neg (show ¬ c = 12 by omega), if_neg (show ¬ c = 13 by omega), if_pos rfl, if_neg (by omega)]
theorem qb_highs : ∀ l : List Int, (∀ x ∈ l, 128 ≤ x) → l.flatMap qb = l
  | [], _ => rfl
  | x :: l, h => by rw [List.flatMap_cons, qb_high (h x (by simp)), qb_highs l (fun y hy => h y (by simp [hy]))]; rfl
theorem form_qb {v : Int} (hv : isv v = true) : (formL v).flatMap qb = oneL v := by
  have hr := isv_iff.1 hv
  by_cases c1 : v < 128
  · have e : formL v = [v] := by unfold formL; rw [if_pos c1]
    rw [e]
    unfold oneL
    rw [e]
    simp [qb]
  · have hs : smallP v = 0 := by
      unfold smallP
      rw [if_neg (show ¬ (v = 34 ∨ v = 92) by omega), if_neg (show ¬ v = 8 by omega), if_neg (show ¬ v = 9 by omega), if_neg (show ¬ v = 10 by omega), if_neg (show ¬ v = 12 by omega), if_neg (show ¬ v = 13 by omega)]
    have e : oneL v = formL v := by unfold oneL; rw [if_pos hs, if_neg (by omega)]
    rw [e]
    apply qb_highs
    intro x hx
    unfold formL at hx
    rw [if_neg c1] at hx
    split at hx
    · simp at hx; omega
    · split at hx
      · simp at hx; omega
      · simp at hx; omega
theorem put_qb : ∀ l : List Int, l.all isv = true → (putL l).flatMap qb = l.flatMap oneL
  | [], _ => rfl
  | v :: l, h => by
    simp only [List.all_cons, Bool.and_eq_true] at h
    rw [putL_cons, List.flatMap_append, form_qb h.1, put_qb l h.2, List.flatMap_cons]
theorem quoteS_codes (s : ByteArray) : quoteS s = if endOf s = s.size then (strOfNums ([34] ++ (codes s).flatMap oneL ++ [34]), 0) else (⟨#[]⟩, 10) := by
  unfold quoteS
  by_cases c : endOf s = s.size
  · rw [if_pos c, if_pos c, valid_bl c, put_qb _ (codes_isv s)]
  · rw [if_neg c, if_neg c]
theorem rQuote_ev (s : ByteArray) (hs : s.size ≤ 17592186000000) : Ev (fun k => sealringref04_Quote.f k s) (quoteS s) := by
  rw [quoteS_codes]
  unfold sealringref04_Quote.f sealringref03_All.f
  have h := rAll_go s (by omega) (s.size + 1) 0 [] [] (by omega) (by simp; omega) (by simp; omega) (by omega) hs (by simp) (by simp)
  refine Ev.bind (f := fun k (bt278 : List Int × List Int × Int) => (if bt278.2.2 = (s.size : Int) then (sealringref04_Quote.l0 k bt278.1 (strOfNums (([34] : List Int))) 0) else (some ((⟨#[]⟩ : ByteArray), 10)))) h ?_
  by_cases c : endOf s = s.size
  · rw [if_pos c]
    refine evPos (by show (((decs s (s.size + 1) 0).2 : Nat) : Int) = _; unfold endOf at c; rw [c]) ?_
    have hlen : (codes s).length ≤ 17592186044000 := by
      have h1 := decs_bl s (s.size + 1) 0
      have h2 : (codes s).length ≤ (putL (codes s)).length := by
        have : ∀ l : List Int, l.length ≤ (putL l).length := by
          intro l
          induction l with
          | nil => simp
          | cons x l ihl => have := (formL_le x).1; rw [putL_cons, List.length_append, List.length_cons]; omega
        exact this _
      have h3 : endOf s = 0 + (putL (codes s)).length := h1.1
      omega
    have hq := rQuote_go (codes s) hlen (codes_isv s) (codes s) [34] 0 rfl (by simp) (by simp)
    simp only [List.nil_append]
    exact hq
  · rw [if_neg c]
    refine evNeg (fun h => c ?_) (Ev.now _)
    have h : (((decs s (s.size + 1) 0).2 : Nat) : Int) = (s.size : Int) := h
    unfold endOf
    omega
end Go.Proofs.Ytijfbnkohnlmaaa.X
end
section
namespace Go.Proofs.Ytijfbnkohnlmaaa.Pure
open Go.RowKit Go.Proofs.Ytijfbnkohnlmaaa.X Go.Proofs.YtijfbnkohnlmaaaW.PrintWords Go.Proofs.YtijfbnkohnlmaaaW.PrintLast
set_option linter.unusedVariables false
set_option linter.unusedSimpArgs false
theorem EscQuotes : sealringlaw04_EscQuotes.Pure := by
  intro a0 h1
  refine Ev.rounds ?_
  unfold sealringlaw04_EscQuotes.f
  by_cases hc : (a0.size : Int) > 300
  · exact evPos hc (Ev.bind lives04 (Ev.now _))
  · refine evNeg hc ?_
    exact Ev.bind (Quote_ev a0 (by omega)) (Ev.bind (rQuote_ev a0 (by omega)) (evPos rfl (evPos rfl (Ev.bind (Size_ev a0 (by omega)) (evPos rfl (Ev.bind lives04 (Ev.now _)))))))
end Go.Proofs.Ytijfbnkohnlmaaa.Pure
end
section
-- printed by wip/tools/printx.py over the translation; Lean checks it
namespace Go.Proofs.Ytijfbnkohnlmaaa.escQuotes
open Go.ChangeShapes Go.WideShapes Go.ChangeAt Go.RowKit
open Go.ChangeMaps (open_string shut_string)
set_option linter.unusedVariables false
theorem own : ownKnob Try.prog.godebug = none := by kernel_rfl
set_option maxRecDepth 100000 in
theorem lifted (os : Os) (started : os.Started) (H : Type) (enc : TypeId × Value → H) :
    ReturnsInHanded {} Try.checked os 8 .any (Rows.escQuotesSpec.pre6 enc Try.prog Try.f8 Rows.escQuotesRow.domain false) (Rows.escQuotesSpec.post enc Try.prog Try.f8 false true false false) := by
  refine returnsInHanded_of_change_sized (C := Try.checked) own started (by kernel_rfl) Try.func8
    (ChangeSpec.witness6 (enc := enc) (C := Try.checked) false ⟨#[], #[.string ByteArray.empty], []⟩ 8 (by kernel_rfl) (by kernel_rfl) (by kernel_rfl) (by kernel_rfl)) ?_
  intro W base args ds gs before hval0 hW hcnd hsz0 _
  have hsz : (DataW.weightsEach Try.prog (Try.f8.params.toList ++ Rows.escQuotesSpec.plain.varTypes Try.prog) (ds ++ gs)).all (· ≤ reachBytes) = true := hsz0
  have hval : ∀ (j : Nat) t v, Try.f8.params[j]? = some t → args[j]? = some v → Value.okWide Try.prog W .any base t v := hval0
  have hW' := hW
  obtain ⟨p, q, hA0, hV, rfl, hfz, hnd⟩ := hW
  have hA : DataW.TrodAll enc Try.prog W 0 (fun _ => true) true Try.f8.params.toList args.toList ds p := hA0
  rw [Try.params8] at hA hval hsz
  obtain ⟨v0, vs0, d0, ds0, p0, q0, hargs, rfl, rfl, h0, r0⟩ := trodAll_cons hA
  obtain ⟨rfl, rfl, rfl⟩ := trodAll_nil r0
  obtain rfl : args = #[v0] := by cases args; simp_all
  obtain ⟨rfl, rfl⟩ := trodVars_none hV
  obtain ⟨a0, rfl, rfl, rfl, y0⟩ := open_string Try.underlying9 (hval 0 9 v0 rfl rfl) h0
  have w0 : a0.size ≤ 140737488351232 := by
    have z := sized_string hsz (j := 0) (t := 9) rfl rfl
    rw [Array.length_toList] at z
    exact z
  clear hA0 hval0 hsz0 hsz
  refine (X.sealringlaw04_EscQuotes.walk Pure.EscQuotes a0 W w0).mono fun e W' ⟨he, bel⟩ => ?_
  subst he
  exact ⟨_, rfl, _, _, _, [], _, [], hW', trodAll_mk1 (shut_bool Try.underlying4 _), (trodAll_cons_mk (shut_string Try.underlying9 y0) trodAll_mk0), rfl, bel.frame _, fun h => by cases h⟩
theorem over : Rows.escQuotesRow.holds Try.pinned (OpenSpec.ofChange Rows.escQuotesSpec) :=
  OpenClaim.holds_of_wide 8 Try.f8 rfl rfl rfl rfl rfl rfl rfl ⟨rfl, rfl, rfl, rfl, rfl⟩ rfl rfl rfl rfl rfl (by kernel_rfl) Try.func8 (by kernel_rfl)
    (of_decide_eq_true (by kernel_rfl)) (by unfold Func.isWrapper; first | (rw [if_pos (by decide +kernel)]; kernel_rfl) | (rw [if_neg (by decide +kernel)]; exact ⟨rfl, rfl⟩))
    (fun os started H enc _ => lifted os started H enc)
theorem proved : Rows.EscQuotesSaid := over
#print axioms proved
end Go.Proofs.Ytijfbnkohnlmaaa.escQuotes
namespace Go.Proofs.Ytijfbnkohnlmaaa
/-- The row, under a short name, for the claim. -/
theorem escQuotes_holds : Rows.EscQuotesSaid := escQuotes.proved
end Go.Proofs.Ytijfbnkohnlmaaa
end
