import Derived.Test.YtinenogcokjpjaaDoorHNum
import Derived.Test.YtinenogcokjpjaaDoorSBytes
namespace Go.Proofs.YtinenogcokjpjaaDoor.X
open Go.RowKit Go.Proofs.YtinenogcokjpjaaDoorW.PrintWords Go.Proofs.YtinenogcokjpjaaDoorW.PrintLast
set_option linter.unusedVariables false
set_option linter.unusedSimpArgs false
theorem isDig_iff {s : ByteArray} {i : Int} : isDig s i = true ↔ i < (s.size : Int) ∧ 48 ≤ bt s i ∧ bt s i ≤ 57 := by simp [isDig]
theorem pow10_le {j k : Nat} (h : j ≤ k) : (10 : Int) ^ j ≤ 10 ^ k := by
  have := Nat.pow_le_pow_right (n := 10) (by omega) h
  exact_mod_cast this
def cntD (s : ByteArray) (b : Nat) : Nat → Nat
  | 0 => 0
  | k + 1 => if isDig s (b : Int) = true then 1 + cntD s (b + 1) k else 0
def valD (s : ByteArray) (b : Nat) : Nat → Int
  | 0 => 0
  | m + 1 => 10 * valD s b m + (bt s ((b + m : Nat) : Int) - 48)
theorem cntD_dig (s : ByteArray) : ∀ (k b j : Nat), j < cntD s b k → isDig s ((b + j : Nat) : Int) = true
  | 0, b, j, h => by simp [cntD] at h
  | k + 1, b, j, h => by
    unfold cntD at h
    by_cases c : isDig s (b : Int) = true
    · rw [if_pos c] at h
      cases j with
      | zero => exact c
      | succ j =>
        have := cntD_dig s k (b + 1) j (by omega)
        rwa [show b + 1 + j = b + (j + 1) from by omega] at this
    · rw [if_neg c] at h; omega
theorem cntD_end (s : ByteArray) : ∀ (k b : Nat), s.size < b + k → isDig s ((b + cntD s b k : Nat) : Int) = false
  | 0, b, h => by simp [isDig, cntD]; omega
  | k + 1, b, h => by
    unfold cntD
    by_cases c : isDig s (b : Int) = true
    · rw [if_pos c]
      have := cntD_end s k (b + 1) (by omega)
      rwa [show b + 1 + cntD s (b + 1) k = b + (1 + cntD s (b + 1) k) from by omega] at this
    · rw [if_neg c]; simpa using c
theorem cntD_le (s : ByteArray) : ∀ (k b : Nat), b ≤ s.size → b + cntD s b k ≤ s.size
  | 0, b, h => by simp [cntD]; exact h
  | k + 1, b, h => by
    unfold cntD
    by_cases c : isDig s (b : Int) = true
    · rw [if_pos c]
      have := (isDig_iff.1 c).1
      have := cntD_le s k (b + 1) (by omega)
      omega
    · rw [if_neg c]; omega
theorem valD_nn (s : ByteArray) (b : Nat) : ∀ m, (∀ j, j < m → isDig s ((b + j : Nat) : Int) = true) → 0 ≤ valD s b m
  | 0, _ => by simp [valD]
  | m + 1, h => by
    have h1 := valD_nn s b m (fun j hj => h j (by omega))
    have h2 := isDig_iff.1 (h m (by omega))
    simp only [valD]; omega
theorem valD_le (s : ByteArray) (b : Nat) : ∀ m, (∀ j, j < m → isDig s ((b + j : Nat) : Int) = true) → valD s b m < 10 ^ m
  | 0, _ => by simp [valD]
  | m + 1, h => by
    have h1 := valD_le s b m (fun j hj => h j (by omega))
    have h2 := isDig_iff.1 (h m (by omega))
    simp only [valD]
    rw [show (10 : Int) ^ (m + 1) = 10 * 10 ^ m from by rw [Int.pow_succ, Int.mul_comm]]
    omega
theorem valD_ge (s : ByteArray) (b : Nat) (hb : bt s (b : Int) ≠ 48) : ∀ m, (∀ j, j < m + 1 → isDig s ((b + j : Nat) : Int) = true) → 10 ^ m ≤ valD s b (m + 1)
  | 0, h => by
    have h2 := isDig_iff.1 (h 0 (by omega))
    simp only [valD, Nat.add_zero] at h2 ⊢
    simp
    omega
  | m + 1, h => by
    have h1 := valD_ge s b hb m (fun j hj => h j (by omega))
    have h2 := isDig_iff.1 (h (m + 1) (by omega))
    rw [valD]
    rw [show (10 : Int) ^ (m + 1) = 10 * 10 ^ m from by rw [Int.pow_succ, Int.mul_comm]]
    omega
theorem scanL_run (s : ByteArray) (b : Nat) : ∀ (d k j : Nat) (n : Int) (o : Bool), cntD s (b + j) k = d → s.size < b + j + k → (∀ q, q < j → isDig s ((b + q : Nat) : Int) = true) →
    (o = false → n = valD s b j ∧ n ≤ 9007199254740991) → (o = true → 0 ≤ n ∧ 9007199254740991 < valD s b j) →
    ∃ n', scanL s k n ((b + j : Nat) : Int) o = (n', ((b + (j + d) : Nat) : Int), decide (9007199254740991 < valD s b (j + d))) ∧ (valD s b (j + d) ≤ 9007199254740991 → n' = valD s b (j + d)) := by
  intro d
  induction d with
  | zero =>
    intro k j n o hd hk hq hf ht
    have hx := cntD_end s k (b + j) hk
    rw [hd] at hx
    have hval : (o = decide (9007199254740991 < valD s b j)) ∧ (valD s b j ≤ 9007199254740991 → n = valD s b j) := by
      cases o with
      | false => have := hf rfl; exact ⟨by symm; simp; omega, fun _ => this.1⟩
      | true => have := ht rfl; exact ⟨by symm; simp; omega, fun h => by omega⟩
    refine ⟨n, ?_, hval.2⟩
    cases k with
    | zero =>
      simp only [scanL]
      show (n, ((b + j : Nat) : Int), o) = (n, ((b + j : Nat) : Int), decide (9007199254740991 < valD s b j))
      rw [← hval.1]
    | succ k =>
      simp only [scanL]
      rw [if_neg (by rw [show ((b + j : Nat) : Int) = ((b + j + 0 : Nat) : Int) from rfl, hx]; simp)]
      show (n, ((b + j : Nat) : Int), o) = (n, ((b + j : Nat) : Int), decide (9007199254740991 < valD s b j))
      rw [← hval.1]
  | succ d ih =>
    intro k j n o hd hk hq hf ht
    cases k with
    | zero => simp [cntD] at hd
    | succ k =>
      unfold cntD at hd
      by_cases c : isDig s ((b + j : Nat) : Int) = true
      · rw [if_pos c] at hd
        have hc := isDig_iff.1 c
        have hq' : ∀ q, q < j + 1 → isDig s ((b + q : Nat) : Int) = true := by
          intro q hq2
          by_cases e : q = j
          · subst e; exact c
          · exact hq q (by omega)
        have hvn := valD_nn s b j hq
        have hstep : valD s b (j + 1) = 10 * valD s b j + (bt s ((b + j : Nat) : Int) - 48) := rfl
        have e1 : ((b + j : Nat) : Int) + 1 = ((b + (j + 1) : Nat) : Int) := by omega
        have e2 : j + (d + 1) = (j + 1) + d := by omega
        simp only [scanL]
        rw [if_pos c, e2]
        by_cases c2 : 10 * n + (bt s ((b + j : Nat) : Int) - 48) > 9007199254740991
        · rw [if_pos c2, e1]
          refine ih k (j + 1) _ true (by rw [show b + (j + 1) = b + j + 1 from by omega]; omega) (by omega) hq' (fun h => by cases h) (fun _ => ⟨by omega, ?_⟩)
          cases o with
          | false => have := hf rfl; omega
          | true => have := ht rfl; omega
        · rw [if_neg c2, e1]
          refine ih k (j + 1) _ o (by rw [show b + (j + 1) = b + j + 1 from by omega]; omega) (by omega) hq' (fun h => ?_) (fun h => ?_)
          · have := hf h; omega
          · have := ht h; omega
      · rw [if_neg c] at hd; omega
theorem scan_from (s : ByteArray) (a : Int) (b : Nat) (hb : b < s.size) (hd : isDig s (b : Int) = true) :
    ∃ D n', cntD s b (s.size - b + 1) = D ∧ 0 < D ∧ b + D ≤ s.size ∧ (∀ q, q < D → isDig s ((b + q : Nat) : Int) = true) ∧
      scanFrom s a (b : Int) = scanEnd s a (b : Int) n' ((b + D : Nat) : Int) (decide (9007199254740991 < valD s b D)) ∧ (valD s b D ≤ 9007199254740991 → n' = valD s b D) := by
  obtain ⟨n', h1, h2⟩ := scanL_run s b (cntD s b (s.size - b + 1)) (s.size - b + 1) 0 0 false rfl (by omega) (fun q hq => by omega) (fun _ => ⟨rfl, by omega⟩) (fun h => by cases h)
  refine ⟨cntD s b (s.size - b + 1), n', rfl, ?_, cntD_le s _ b (by omega), fun q hq => cntD_dig s _ b q hq, ?_, ?_⟩
  · unfold cntD; rw [if_pos hd]; omega
  · unfold scanFrom
    rw [if_neg (by omega), if_pos hd]
    have e : ((s.size : Int) - (b : Int)).toNat + 1 = s.size - b + 1 := by omega
    have e0 : ((b : Nat) : Int) = ((b + 0 : Nat) : Int) := rfl
    rw [e, show scanL s (s.size - b + 1) 0 (b : Int) false = _ from h1]
    simp only [Nat.zero_add]
  · simpa using h2
theorem num_Scan_f {s : ByteArray} (hs : s.size ≤ 140737488351232) (a : Int) : num_Scan.f s a = some (numScan s a) := by unfold num_Scan.f; rw [if_pos hs]
end Go.Proofs.YtinenogcokjpjaaDoor.X
