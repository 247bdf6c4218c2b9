import Derived.Test.YtpedhffkmceldaaHBound
import Derived.Test.YtpedhffkmceldaaX3
import Derived.Test.YtpedhffkmceldaaX4
import Derived.Test.YtpedhffkmceldaaX5
namespace Go.Proofs.Ytpedhffkmceldaa.X
open Go.RowKit Go.Proofs.YtpedhffkmceldaaW.PrintWords Go.Proofs.YtpedhffkmceldaaW.PrintLast
set_option linter.unusedVariables false
set_option linter.unusedSimpArgs false

/-- log2 of a whole number; 0 below 2. -/
def lg (x : Int) : Nat := Nat.log2 x.toNat

theorem lg_small {x : Int} (h : x < 2) : lg x = 0 := by
  unfold lg
  have : x.toNat < 2 := by omega
  rw [Nat.log2_def, if_neg (by omega)]
theorem lg_step {x : Int} (h : 2 ≤ x) : lg x = lg (x / 2) + 1 := by
  unfold lg
  rw [Nat.log2_def x.toNat, if_pos (by omega)]
  have : (x / 2).toNat = x.toNat / 2 := by omega
  rw [this]
theorem lg_lt {x : Int} {m : Nat} (h : x < 2 ^ (m + 1)) : lg x ≤ m := by
  unfold lg
  by_cases h0 : x.toNat = 0
  · rw [h0, Nat.log2_def]; simp
  · have := (Nat.log2_lt h0 (k := m + 1)).2 (by
      have e : ((2 : Int) ^ (m + 1)) = ((2 ^ (m + 1) : Nat) : Int) := by norm_cast
      rw [e] at h; omega)
    omega
theorem lg_mono {x y : Int} (h : x ≤ y) : lg x ≤ lg y := by
  unfold lg
  by_cases h0 : x.toNat = 0
  · rw [h0]
    have : Nat.log2 0 = 0 := by rw [Nat.log2_def]; simp
    omega
  · by_cases h1 : y.toNat = 0
    · omega
    · rw [Nat.le_log2 h1]
      have := Nat.log2_self_le h0
      omega

theorem bLog_l0 : ∀ (m : Nat) (x j : Int) (k : Nat), lg x = m → x ≤ 9223372036854775807 → 0 ≤ j → j + m < 64 → m < k → bound_Log.l0 k x j = some (j + m) := by
  intro m
  induction m with
  | zero =>
    intro x j k hm hx hj hjm hk
    obtain ⟨k, rfl⟩ : ∃ q, k = q + 1 := ⟨k - 1, by omega⟩
    have hx1 : x ≤ 1 := by
      by_cases h : x ≤ 1
      · exact h
      · rw [lg_step (by omega)] at hm; omega
    simp only [bound_Log.l0]
    rw [if_pos (by omega), if_pos hx1]
    simp
  | succ m ih =>
    intro x j k hm hx hj hjm hk
    obtain ⟨k, rfl⟩ : ∃ q, k = q + 1 := ⟨k - 1, by omega⟩
    have hx1 : ¬ x ≤ 1 := by
      intro h
      rw [lg_small (by omega)] at hm; omega
    simp only [bound_Log.l0]
    rw [if_pos (by omega), if_neg hx1]
    have e1 : wrap64 (x.tdiv 2) = x / 2 := by
      have : x.tdiv 2 = x / 2 := Int.tdiv_eq_ediv_of_nonneg (by omega)
      rw [this]; unfold wrap64; omega
    have e2 : wrap64 (j + 1) = j + 1 := by unfold wrap64; omega
    rw [e1, e2, ih (x / 2) (j + 1) k (by rw [lg_step (by omega)] at hm; omega) (by omega) (by omega) (by omega) (by omega)]
    congr 1
    omega
theorem bLog_f (x : Int) (k : Nat) (hx : x ≤ 9223372036854775807) (hk : 63 < k) : bound_Log.f k x = some (lg x : Int) := by
  have hl : lg x ≤ 62 := lg_lt (m := 62) (by omega)
  have := bLog_l0 (lg x) x 0 k rfl hx (by omega) (by omega) (by omega)
  unfold bound_Log.f
  rw [this]; simp
theorem rLog_f : ∀ (m : Nat) (x : Int) (k : Nat), lg x = m → x ≤ 9223372036854775807 → m ≤ 62 → m < k → sealringref12_Log.f k x = some (m : Int) := by
  intro m
  induction m with
  | zero =>
    intro x k hm hx _ hk
    obtain ⟨k, rfl⟩ : ∃ q, k = q + 1 := ⟨k - 1, by omega⟩
    have hx1 : x < 2 := by
      by_cases h : x < 2
      · exact h
      · rw [lg_step (by omega)] at hm; omega
    simp only [sealringref12_Log.f]
    rw [if_pos hx1]; rfl
  | succ m ih =>
    intro x k hm hx hm62 hk
    obtain ⟨k, rfl⟩ : ∃ q, k = q + 1 := ⟨k - 1, by omega⟩
    have hx1 : ¬ x < 2 := by
      intro h
      rw [lg_small (by omega)] at hm; omega
    simp only [sealringref12_Log.f]
    rw [if_neg hx1]
    have e1 : wrap64 (x.tdiv 2) = x / 2 := by
      have : x.tdiv 2 = x / 2 := Int.tdiv_eq_ediv_of_nonneg (by omega)
      rw [this]; unfold wrap64; omega
    rw [e1, ih (x / 2) k (by rw [lg_step (by omega)] at hm; omega) (by omega) (by omega) (by omega)]
    simp only [Option.bind_some]
    congr 1
    unfold wrap64; omega
def stepsOf (x : Int) : Int := if x < 0 then 0 else if x > 1099511627776 then 0 else 4 * (x + 1) * (1 + (lg (x + 1) : Int))
theorem lg_fits {x : Int} (h0 : 0 ≤ x) (h : x ≤ 1099511627776) : lg (x + 1) ≤ 41 := lg_lt (m := 41) (by omega)
theorem mul_le_of {a b A B : Int} (ha0 : 0 ≤ a) (ha : a ≤ A) (hb0 : 0 ≤ b) (hb : b ≤ B) : 0 ≤ a * b ∧ a * b ≤ A * B :=
  ⟨Int.mul_nonneg ha0 hb0, Int.mul_le_mul ha hb hb0 (by omega)⟩
theorem bSteps_f (x : Int) (k : Nat) (hk : 63 < k) : bound_Steps.f k x = some (stepsOf x) := by
  unfold bound_Steps.f stepsOf
  by_cases h1 : x < 0
  · rw [if_pos h1, if_pos h1]
  rw [if_neg h1, if_neg h1]
  by_cases h2 : x > 1099511627776
  · rw [if_pos h2, if_pos h2]
  rw [if_neg h2, if_neg h2]
  have e1 : wrap64 (x + 1) = x + 1 := by unfold wrap64; omega
  have hl := lg_fits (x := x) (by omega) (by omega)
  rw [e1, bLog_f (x + 1) k (by omega) hk]
  simp only [Option.bind_some]
  have e2 : wrap64 (4 * (x + 1)) = 4 * (x + 1) := by unfold wrap64; omega
  have e3 : wrap64 (1 + (lg (x + 1) : Int)) = 1 + (lg (x + 1) : Int) := by unfold wrap64; omega
  rw [e2, e3]
  have hm := mul_le_of (a := 4 * (x + 1)) (b := 1 + (lg (x + 1) : Int)) (A := 4398046511108) (B := 42) (by omega) (by omega) (by omega) (by omega)
  congr 1
  generalize 4 * (x + 1) * (1 + (lg (x + 1) : Int)) = q at hm ⊢
  unfold wrap64; omega
theorem rSteps_f (x : Int) (k : Nat) (hk : 63 < k) : sealringref12_Steps.f k x = some (stepsOf x) := by
  unfold sealringref12_Steps.f stepsOf
  by_cases h1 : x < 0
  · rw [if_pos h1, if_pos h1]
  rw [if_neg h1, if_neg h1]
  by_cases h2 : x > 1099511627776
  · rw [if_pos h2, if_pos h2]
  rw [if_neg h2, if_neg h2]
  have e1 : wrap64 (x + 1) = x + 1 := by unfold wrap64; omega
  have hl := lg_fits (x := x) (by omega) (by omega)
  rw [e1, rLog_f _ (x + 1) k rfl (by omega) (by omega) (by omega)]
  simp only [Option.bind_some]
  have e2 : wrap64 (4 * (lg (x + 1) : Int)) = 4 * (lg (x + 1) : Int) := by unfold wrap64; omega
  have e3 : wrap64 (4 + 4 * (lg (x + 1) : Int)) = 4 * (1 + (lg (x + 1) : Int)) := by unfold wrap64; omega
  rw [e2, e3]
  have hm := mul_le_of (a := 4 * (x + 1)) (b := 1 + (lg (x + 1) : Int)) (A := 4398046511108) (B := 42) (by omega) (by omega) (by omega) (by omega)
  have e4 : (x + 1) * (4 * (1 + (lg (x + 1) : Int))) = 4 * (x + 1) * (1 + (lg (x + 1) : Int)) := by
    rw [← Int.mul_assoc, Int.mul_comm (x + 1) 4]
  rw [e4]
  congr 1
  generalize 4 * (x + 1) * (1 + (lg (x + 1) : Int)) = q at hm ⊢
  unfold wrap64; omega
theorem bLives_f (k : Nat) (hk : 63 < k) : sealringlaw12_lives.f k = some true := by
  unfold sealringlaw12_lives.f
  rw [bLog_f 8 k (by omega) hk, bLog_f 9 k (by omega) hk, bSteps_f 0 k hk, bSteps_f 7 k hk]
  decide +kernel
end Go.Proofs.Ytpedhffkmceldaa.X
