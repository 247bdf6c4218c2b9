import Derived.Test.YtpedhffkmceldaaX7
import Derived.Test.YtpedhffkmceldaaSBound
namespace Go.Proofs.Ytpedhffkmceldaa.Pure
open Go.RowKit Go.Proofs.Ytpedhffkmceldaa.X Go.Proofs.YtpedhffkmceldaaW.PrintWords Go.Proofs.YtpedhffkmceldaaW.PrintLast
set_option linter.unusedVariables false
set_option linter.unusedSimpArgs false

theorem lg_double {x : Int} (h : 1 ≤ x) : lg (2 * x) = lg x + 1 := by
  rw [lg_step (by omega)]
  have : 2 * x / 2 = x := by omega
  rw [this]
theorem stepsOf_in {x : Int} (h0 : 0 ≤ x) (h1 : x ≤ 1099511627776) : stepsOf x = 4 * (x + 1) * (1 + (lg (x + 1) : Int)) := by
  unfold stepsOf
  rw [if_neg (by omega), if_neg (by omega)]
theorem stepsOf_le {x y : Int} (h0 : 0 ≤ x) (h : x ≤ y) (h1 : y ≤ 1099511627776) : stepsOf x ≤ stepsOf y := by
  rw [stepsOf_in h0 (by omega), stepsOf_in (by omega) h1]
  have := lg_mono (x := x + 1) (y := y + 1) (by omega)
  exact Int.mul_le_mul (by omega) (by omega) (by omega) (by omega)
theorem stepsOf_low {x : Int} (h0 : 0 ≤ x) (h1 : x ≤ 1099511627776) : 4 * (x + 1) ≤ stepsOf x := by
  rw [stepsOf_in h0 h1]
  have := Int.mul_le_mul_of_nonneg_left (a := 1) (b := 1 + (lg (x + 1) : Int)) (c := 4 * (x + 1)) (by omega) (by omega)
  rw [Int.mul_one] at this
  exact this
theorem stepsOf_high {x : Int} (h0 : 0 ≤ x) (h1 : x ≤ 1099511627776) : 0 ≤ stepsOf x ∧ stepsOf x ≤ 4398046511108 * 42 := by
  rw [stepsOf_in h0 h1]
  have hl := lg_fits h0 h1
  exact mul_le_of (by omega) (by omega) (by omega) (by omega)
theorem stepsOf_twice {x : Int} (h0 : 0 ≤ x) (h1 : 2 * x + 1 ≤ 1099511627776) : stepsOf (2 * x + 1) = 2 * stepsOf x + 8 * (x + 1) := by
  rw [stepsOf_in h0 (by omega), stepsOf_in (by omega) h1]
  have e : lg (2 * x + 1 + 1) = lg (x + 1) + 1 := by
    have : 2 * x + 1 + 1 = 2 * (x + 1) := by omega
    rw [this, lg_double (by omega)]
  rw [e]
  have e2 : 4 * (2 * x + 1 + 1) = 8 * (x + 1) := by omega
  rw [e2]
  generalize lg (x + 1) = g
  have : (((g + 1 : Nat) : Int)) = (g : Int) + 1 := by omega
  rw [this]
  generalize x + 1 = z
  generalize (g : Int) = q
  have a1 : 8 * z * (1 + (q + 1)) = 8 * z * (1 + q) + 8 * z := by rw [← Int.add_assoc, Int.mul_add (8 * z) (1 + q) 1]; omega
  have a2 : 2 * (4 * z * (1 + q)) = 8 * z * (1 + q) := by rw [← Int.mul_assoc, ← Int.mul_assoc, show (2 : Int) * 4 = 8 from rfl]
  rw [a1, a2]
theorem BoundGrows : sealringlaw12_BoundGrows.Pure := by
  intro a0 a1 hw0 hw1
  have hb0 : 0 ≤ a0 ∧ a0 ≤ 4294967295 := by simpa [Lit.wf, IntKind.min, IntKind.max, IntKind.signed, IntKind.bits] using hw0
  have hb1 : 0 ≤ a1 ∧ a1 ≤ 4294967295 := by simpa [Lit.wf, IntKind.min, IntKind.max, IntKind.signed, IntKind.bits] using hw1
  refine ⟨64, ?_⟩
  unfold sealringlaw12_BoundGrows.f
  have t0 : Int.tmod a0 1073741824 = a0 % 1073741824 := Int.tmod_eq_emod_of_nonneg hb0.1
  have t1 : Int.tmod a1 1073741824 = a1 % 1073741824 := Int.tmod_eq_emod_of_nonneg hb1.1
  rw [t0, t1]
  obtain ⟨x, hx⟩ : ∃ x, x = a0 % 1073741824 := ⟨_, rfl⟩
  obtain ⟨y, hy⟩ : ∃ y, y = a1 % 1073741824 := ⟨_, rfl⟩
  rw [← hx, ← hy]
  have hx0 : 0 ≤ x ∧ x < 1073741824 := by omega
  have hy0 : 0 ≤ y ∧ y < 1073741824 := by omega
  clear hx hy t0 t1
  have w1 : wrap64 x = x := by unfold wrap64; omega
  have w2 : wrap64 y = y := by unfold wrap64; omega
  have w3 : wrap64 (x + y) = x + y := by unfold wrap64; omega
  have w4 : wrap64 (2 * x) = 2 * x := by unfold wrap64; omega
  have w5 : wrap64 (2 * x + 1) = 2 * x + 1 := by unfold wrap64; omega
  have w6 : wrap64 (x + 1) = x + 1 := by unfold wrap64; omega
  have w7 : wrap64 (8 * (x + 1)) = 8 * (x + 1) := by unfold wrap64; omega
  have w8 : wrap64 (4 * (x + 1)) = 4 * (x + 1) := by unfold wrap64; omega
  have hs := stepsOf_high (x := x) (by omega) (by omega)
  have w9 : wrap64 (2 * stepsOf x) = 2 * stepsOf x := by unfold wrap64; omega
  have w10 : wrap64 (2 * stepsOf x + 8 * (x + 1)) = 2 * stepsOf x + 8 * (x + 1) := by unfold wrap64; omega
  rw [w1, w2, w3, w4, w5, w6, w7, w8]
  simp only [bSteps_f _ 64 (by omega : 63 < 64), Option.bind_some]
  rw [if_pos (stepsOf_le (by omega) (by omega) (by omega)), w9, w10, if_pos (stepsOf_twice (by omega) (by omega)), if_pos (stepsOf_low (by omega) (by omega)), bLives_f 64 (by omega)]
  rfl

end Go.Proofs.Ytpedhffkmceldaa.Pure
