import Derived.Test.YtpedhffkmceldaaHNum
import Derived.Test.YtpedhffkmceldaaSBytes
import Derived.Test.YtpedhffkmceldaaX13
import Derived.Test.YtpedhffkmceldaaX14
import Derived.Test.YtpedhffkmceldaaX15
namespace Go.Proofs.Ytpedhffkmceldaa.X
open Go.RowKit Go.Proofs.YtpedhffkmceldaaW.PrintWords Go.Proofs.YtpedhffkmceldaaW.PrintLast
set_option linter.unusedVariables false
set_option linter.unusedSimpArgs false
theorem isDig_iff {s : ByteArray} {i : Int} : isDig s i = true ↔ i < (s.size : Int) ∧ 48 ≤ bt s i ∧ bt s i ≤ 57 := by simp [isDig]
theorem pow10_le {j k : Nat} (h : j ≤ k) : (10 : Int) ^ j ≤ 10 ^ k := by
  have := Nat.pow_le_pow_right (n := 10) (by omega) h
  exact_mod_cast this
/-- How many digits stand from a place on. -/
def cntD (s : ByteArray) (b : Nat) : Nat → Nat
  | 0 => 0
  | k + 1 => if isDig s (b : Int) = true then 1 + cntD s (b + 1) k else 0
/-- The number of the first m digits from a place on. -/
def valD (s : ByteArray) (b : Nat) : Nat → Int
  | 0 => 0
  | m + 1 => 10 * valD s b m + (bt s ((b + m : Nat) : Int) - 48)
theorem cntD_dig (s : ByteArray) : ∀ (k b j : Nat), j < cntD s b k → isDig s ((b + j : Nat) : Int) = true
  | 0, b, j, h => by simp [cntD] at h
  | k + 1, b, j, h => by
    unfold cntD at h
    by_cases c : isDig s (b : Int) = true
    · rw [if_pos c] at h
      cases j with
      | zero => exact c
      | succ j =>
        have := cntD_dig s k (b + 1) j (by omega)
        rwa [show b + 1 + j = b + (j + 1) from by omega] at this
    · rw [if_neg c] at h; omega
theorem cntD_end (s : ByteArray) : ∀ (k b : Nat), s.size < b + k → isDig s ((b + cntD s b k : Nat) : Int) = false
  | 0, b, h => by simp [isDig, cntD]; omega
  | k + 1, b, h => by
    unfold cntD
    by_cases c : isDig s (b : Int) = true
    · rw [if_pos c]
      have := cntD_end s k (b + 1) (by omega)
      rwa [show b + 1 + cntD s (b + 1) k = b + (1 + cntD s (b + 1) k) from by omega] at this
    · rw [if_neg c]; simpa using c
theorem cntD_le (s : ByteArray) : ∀ (k b : Nat), b ≤ s.size → b + cntD s b k ≤ s.size
  | 0, b, h => by simp [cntD]; exact h
  | k + 1, b, h => by
    unfold cntD
    by_cases c : isDig s (b : Int) = true
    · rw [if_pos c]
      have := (isDig_iff.1 c).1
      have := cntD_le s k (b + 1) (by omega)
      omega
    · rw [if_neg c]; omega
theorem valD_nn (s : ByteArray) (b : Nat) : ∀ m, (∀ j, j < m → isDig s ((b + j : Nat) : Int) = true) → 0 ≤ valD s b m
  | 0, _ => by simp [valD]
  | m + 1, h => by
    have h1 := valD_nn s b m (fun j hj => h j (by omega))
    have h2 := isDig_iff.1 (h m (by omega))
    simp only [valD]; omega
theorem valD_le (s : ByteArray) (b : Nat) : ∀ m, (∀ j, j < m → isDig s ((b + j : Nat) : Int) = true) → valD s b m < 10 ^ m
  | 0, _ => by simp [valD]
  | m + 1, h => by
    have h1 := valD_le s b m (fun j hj => h j (by omega))
    have h2 := isDig_iff.1 (h m (by omega))
    simp only [valD]
    rw [show (10 : Int) ^ (m + 1) = 10 * 10 ^ m from by rw [Int.pow_succ, Int.mul_comm]]
    omega
theorem valD_ge (s : ByteArray) (b : Nat) (hb : bt s (b : Int) ≠ 48) : ∀ m, (∀ j, j < m + 1 → isDig s ((b + j : Nat) : Int) = true) → 10 ^ m ≤ valD s b (m + 1)
  | 0, h => by
    have h2 := isDig_iff.1 (h 0 (by omega))
    simp only [valD, Nat.add_zero] at h2 ⊢
    simp
    omega
  | m + 1, h => by
    have h1 := valD_ge s b hb m (fun j hj => h j (by omega))
    have h2 := isDig_iff.1 (h (m + 1) (by omega))
    rw [valD]
    rw [show (10 : Int) ^ (m + 1) = 10 * 10 ^ m from by rw [Int.pow_succ, Int.mul_comm]]
    omega
/-- What the digits come to: the number, if it is not too great. -/
theorem scanL_run (s : ByteArray) (b : Nat) : ∀ (d k j : Nat) (n : Int) (o : Bool), cntD s (b + j) k = d → s.size < b + j + k → (∀ q, q < j → isDig s ((b + q : Nat) : Int) = true) →
    (o = false → n = valD s b j ∧ n ≤ 9007199254740991) → (o = true → 0 ≤ n ∧ 9007199254740991 < valD s b j) →
    ∃ n', scanL s k n ((b + j : Nat) : Int) o = (n', ((b + (j + d) : Nat) : Int), decide (9007199254740991 < valD s b (j + d))) ∧ (valD s b (j + d) ≤ 9007199254740991 → n' = valD s b (j + d)) := by
  intro d
  induction d with
  | zero =>
    intro k j n o hd hk hq hf ht
    have hx := cntD_end s k (b + j) hk
    rw [hd] at hx
    have hval : (o = decide (9007199254740991 < valD s b j)) ∧ (valD s b j ≤ 9007199254740991 → n = valD s b j) := by
      cases o with
      | false => have := hf rfl; exact ⟨by symm; simp; omega, fun _ => this.1⟩
      | true => have := ht rfl; exact ⟨by symm; simp; omega, fun h => by omega⟩
    refine ⟨n, ?_, hval.2⟩
    cases k with
    | zero =>
      simp only [scanL]
      show (n, ((b + j : Nat) : Int), o) = (n, ((b + j : Nat) : Int), decide (9007199254740991 < valD s b j))
      rw [← hval.1]
    | succ k =>
      simp only [scanL]
      rw [if_neg (by rw [show ((b + j : Nat) : Int) = ((b + j + 0 : Nat) : Int) from rfl, hx]; simp)]
      show (n, ((b + j : Nat) : Int), o) = (n, ((b + j : Nat) : Int), decide (9007199254740991 < valD s b j))
      rw [← hval.1]
  | succ d ih =>
    intro k j n o hd hk hq hf ht
    cases k with
    | zero => simp [cntD] at hd
    | succ k =>
      unfold cntD at hd
      by_cases c : isDig s ((b + j : Nat) : Int) = true
      · rw [if_pos c] at hd
        have hc := isDig_iff.1 c
        have hq' : ∀ q, q < j + 1 → isDig s ((b + q : Nat) : Int) = true := by
          intro q hq2
          by_cases e : q = j
          · subst e; exact c
          · exact hq q (by omega)
        have hvn := valD_nn s b j hq
        have hstep : valD s b (j + 1) = 10 * valD s b j + (bt s ((b + j : Nat) : Int) - 48) := rfl
        have e1 : ((b + j : Nat) : Int) + 1 = ((b + (j + 1) : Nat) : Int) := by omega
        have e2 : j + (d + 1) = (j + 1) + d := by omega
        simp only [scanL]
        rw [if_pos c, e2]
        by_cases c2 : 10 * n + (bt s ((b + j : Nat) : Int) - 48) > 9007199254740991
        · rw [if_pos c2, e1]
          refine ih k (j + 1) _ true (by rw [show b + (j + 1) = b + j + 1 from by omega]; omega) (by omega) hq' (fun h => by cases h) (fun _ => ⟨by omega, ?_⟩)
          cases o with
          | false => have := hf rfl; omega
          | true => have := ht rfl; omega
        · rw [if_neg c2, e1]
          refine ih k (j + 1) _ o (by rw [show b + (j + 1) = b + j + 1 from by omega]; omega) (by omega) hq' (fun h => ?_) (fun h => ?_)
          · have := hf h; omega
          · have := ht h; omega
      · rw [if_neg c] at hd; omega
theorem digits_ev (s : ByteArray) (b : Nat) (hs : s.size ≤ 140737488351232) (hb : b ≤ s.size) : ∀ (d K j : Nat), cntD s (b + j) K = d → s.size < b + j + K → b + j ≤ s.size →
    Ev (fun k => sealringref05_digits.l0 k s (b : Int) (j : Int)) ((j + d : Nat) : Int) := by
  intro d
  induction d with
  | zero =>
    intro K j hd hk hj
    have hx := cntD_end s K (b + j) hk
    rw [hd, Nat.add_zero] at hx
    refine Ev.step (f := fun _ => some (j : Int)) (fun k => ?_) (Ev.now _)
    rw [sealringref05_digits.l0]
    have e : wrap64 ((b : Int) + (j : Int)) = ((b + j : Nat) : Int) := by unfold wrap64; omega
    rw [e]
    by_cases c1 : ((b + j : Nat) : Int) < (s.size : Int)
    · rw [if_pos c1, if_pos (by omega)]
      by_cases c2 : 48 ≤ bt s ((b + j : Nat) : Int)
      · rw [if_pos c2]
        by_cases c3 : bt s ((b + j : Nat) : Int) ≤ 57
        · have := isDig_iff.2 ⟨c1, c2, c3⟩
          rw [hx] at this; cases this
        · rw [if_neg c3]
      · rw [if_neg c2]
    · rw [if_neg c1]
  | succ d ih =>
    intro K j hd hk hj
    cases K with
    | zero => simp [cntD] at hd
    | succ K =>
      unfold cntD at hd
      by_cases c : isDig s ((b + j : Nat) : Int) = true
      · rw [if_pos c] at hd
        have hc := isDig_iff.1 c
        have := ih K (j + 1) (by rw [show b + (j + 1) = b + j + 1 from by omega]; omega) (by omega) (by omega)
        rw [show j + (d + 1) = j + 1 + d from by omega]
        refine Ev.step (fun k => ?_) this
        rw [sealringref05_digits.l0]
        have e : wrap64 ((b : Int) + (j : Int)) = ((b + j : Nat) : Int) := by unfold wrap64; omega
        rw [e, if_pos hc.1, if_pos (by omega), if_pos hc.2.1, if_pos hc.2.2, w64s j (by omega)]
      · rw [if_neg c] at hd; omega
theorem small_ev (s : ByteArray) (b e : Nat) (hs : s.size ≤ 140737488351232) (hbe : b ≤ e) (he : e ≤ s.size) (hq : ∀ q, b + q < e → isDig s ((b + q : Nat) : Int) = true) (h16 : e - b ≤ 16) :
    ∀ (d j : Nat), b + j + d = e → Ev (fun k => sealringref05_small.l0 k (s.extract b e) (valD s b j) (j : Int)) (valD s b (e - b), decide (valD s b (e - b) ≤ 9007199254740991)) := by
  intro d
  induction d with
  | zero =>
    intro j hj
    have hj' : e - b = j := by omega
    refine Ev.step (f := fun _ => some _) (fun k => ?_) (Ev.now _)
    rw [sealringref05_small.l0, size_ext s b e he, if_neg (by omega), hj']
  | succ d ih =>
    intro j hj
    have hd := isDig_iff.1 (hq j (by omega))
    have hl := valD_le s b j (fun q hq2 => hq q (by omega))
    have hn := valD_nn s b j (fun q hq2 => hq q (by omega))
    have hp : (10 : Int) ^ j ≤ 10 ^ 15 := pow10_le (by omega)
    refine Ev.step (fun k => ?_) (ih (j + 1) (by omega))
    rw [sealringref05_small.l0, size_ext s b e he, if_pos (by omega), if_pos (by omega), bt_ext s b e j he (by omega), w64s j (by omega)]
    have e1 : wrap64 (10 * valD s b j) = 10 * valD s b j := by unfold wrap64; omega
    have e2 : (bt s ((b + j : Nat) : Int) - 48) % 256 = bt s ((b + j : Nat) : Int) - 48 := by omega
    have e3 : wrap64 (10 * valD s b j + (bt s ((b + j : Nat) : Int) - 48)) = valD s b (j + 1) := by
      simp only [valD]; unfold wrap64; omega
    rw [e1, e2, e3]
/-- The digits from a place on, and what they come to. -/
theorem scan_from (s : ByteArray) (a : Int) (b : Nat) (hb : b < s.size) (hd : isDig s (b : Int) = true) :
    ∃ D n', cntD s b (s.size - b + 1) = D ∧ 0 < D ∧ b + D ≤ s.size ∧ (∀ q, q < D → isDig s ((b + q : Nat) : Int) = true) ∧
      scanFrom s a (b : Int) = scanEnd s a (b : Int) n' ((b + D : Nat) : Int) (decide (9007199254740991 < valD s b D)) ∧ (valD s b D ≤ 9007199254740991 → n' = valD s b D) := by
  obtain ⟨n', h1, h2⟩ := scanL_run s b (cntD s b (s.size - b + 1)) (s.size - b + 1) 0 0 false rfl (by omega) (fun q hq => by omega) (fun _ => ⟨rfl, by omega⟩) (fun h => by cases h)
  refine ⟨cntD s b (s.size - b + 1), n', rfl, ?_, cntD_le s _ b (by omega), fun q hq => cntD_dig s _ b q hq, ?_, ?_⟩
  · unfold cntD; rw [if_pos hd]; omega
  · unfold scanFrom
    rw [if_neg (by omega), if_pos hd]
    have e : ((s.size : Int) - (b : Int)).toNat + 1 = s.size - b + 1 := by omega
    have e0 : ((b : Nat) : Int) = ((b + 0 : Nat) : Int) := rfl
    rw [e, show scanL s (s.size - b + 1) 0 (b : Int) false = _ from h1]
    simp only [Nat.zero_add]
  · simpa using h2
theorem j4_ev (s : ByteArray) (hs : s.size ≤ 140737488351232) (a : Int) (x7 : Int) (b D : Nat) (n' : Int) (h7 : x7 = 1 ∨ x7 = 0) (hba : ((b : Int) > a) ↔ x7 = 1) (hD : 0 < D) (hbD : b + D ≤ s.size)
    (hq : ∀ q, q < D → isDig s ((b + q : Nat) : Int) = true) (hn : valD s b D ≤ 9007199254740991 → n' = valD s b D) (h48 : ¬ (bt s (b : Int) = 48 ∧ (((b + D : Nat) : Int) > (b : Int) + 1 ∨ (b : Int) > a)))
    (fl : Bool) (hfl : fl = true ↔ (((b + D : Nat) : Int) < (s.size : Int) ∧ (bt s ((b + D : Nat) : Int) = 46 ∨ bt s ((b + D : Nat) : Int) = 101 ∨ bt s ((b + D : Nat) : Int) = 69))) :
    Ev (fun k => sealringref05_Scan.j4 k s x7 (b : Int) ((b + D : Nat) : Int) fl) (scanEnd s a (b : Int) n' ((b + D : Nat) : Int) (decide (9007199254740991 < valD s b D))) := by
  unfold scanEnd
  rw [if_neg h48]
  cases fl with
  | true =>
    rw [if_pos (hfl.1 rfl)]
    refine Ev.step (f := fun _ => some _) (fun k => ?_) (Ev.now _)
    rw [sealringref05_Scan.j4, if_pos rfl]
  | false =>
    rw [if_neg (fun h => by have := hfl.2 h; cases this)]
    refine Ev.step (f := fun k => (sealringref05_small.f k (s.extract b (b + D))).bind fun bt209 => (if bt209.2 = true then (if x7 = 1 then (some (wrap64 (-bt209.1), ((b + D : Nat) : Int), 0)) else (some (bt209.1, ((b + D : Nat) : Int), 0))) else (some (0, 0, 2)))) (fun k => ?_) ?_
    · rw [sealringref05_Scan.j4, if_neg (by simp), if_pos (by omega), if_pos (by omega), if_pos (by omega)]
      rfl
    · have hvn := valD_nn s b D hq
      by_cases h16 : D ≤ 16
      · have hsm := small_ev s b (b + D) hs (by omega) hbD (fun q hq2 => hq q (by omega)) (by omega) D 0 (by omega)
        have hsf : Ev (fun k => sealringref05_small.f k (s.extract b (b + D))) (valD s b D, decide (valD s b D ≤ 9007199254740991)) := by
          unfold sealringref05_small.f
          rw [size_ext s b (b + D) hbD]
          refine evNeg (by omega) ?_
          have e : b + D - b = D := by omega
          rw [e] at hsm
          exact hsm
        refine Ev.bind hsf ?_
        by_cases ho : valD s b D ≤ 9007199254740991
        · refine evPos (by simpa using ho) ?_
          have hl := valD_le s b D hq
          have hw : wrap64 (-valD s b D) = -valD s b D := by unfold wrap64; omega
          rw [if_neg (show ¬ (decide (9007199254740991 < valD s b D) = true) by simpa using ho)]
          rcases h7 with h7 | h7
          · refine evPos h7 ?_
            rw [if_pos (hba.2 h7), hw, hn ho]
            exact Ev.now _
          · refine evNeg (by omega) ?_
            rw [if_neg (fun h => by have := hba.1 h; omega), hn ho]
            exact Ev.now _
        · refine evNeg (by simpa using ho) ?_
          rw [if_pos (show decide (9007199254740991 < valD s b D) = true by simp; omega)]
          exact Ev.now _
      · have hsf : Ev (fun k => sealringref05_small.f k (s.extract b (b + D))) (0, false) := by
          unfold sealringref05_small.f
          rw [size_ext s b (b + D) hbD]
          exact evPos (by omega) (Ev.now _)
        refine Ev.bind hsf (evNeg (by simp) ?_)
        have hne : bt s (b : Int) ≠ 48 := fun h => h48 ⟨h, .inl (by omega)⟩
        have hg := valD_ge s b hne (D - 1) (fun j hj => hq j (by omega))
        rw [show D - 1 + 1 = D from by omega] at hg
        have hp : (10 : Int) ^ 16 ≤ 10 ^ (D - 1) := pow10_le (by omega)
        rw [if_pos (by simp; omega)]
        exact Ev.now _
theorem j3_ev (s : ByteArray) (hs : s.size ≤ 140737488351232) (a : Int) (x7 : Int) (b D : Nat) (n' : Int) (h7 : x7 = 1 ∨ x7 = 0) (hba : ((b : Int) > a) ↔ x7 = 1) (hD : 0 < D) (hbD : b + D ≤ s.size)
    (hq : ∀ q, q < D → isDig s ((b + q : Nat) : Int) = true) (hn : valD s b D ≤ 9007199254740991 → n' = valD s b D)
    (fl : Bool) (hfl : fl = true ↔ (bt s (b : Int) = 48 ∧ (((b + D : Nat) : Int) > (b : Int) + 1 ∨ (b : Int) > a))) :
    Ev (fun k => sealringref05_Scan.j3 k s x7 (b : Int) ((b + D : Nat) : Int) fl) (scanEnd s a (b : Int) n' ((b + D : Nat) : Int) (decide (9007199254740991 < valD s b D))) := by
  cases fl with
  | true =>
    unfold scanEnd
    rw [if_pos (hfl.1 rfl)]
    refine Ev.step (f := fun _ => some _) (fun k => ?_) (Ev.now _)
    rw [sealringref05_Scan.j3, if_pos rfl]
  | false =>
    have h48 : ¬ (bt s (b : Int) = 48 ∧ (((b + D : Nat) : Int) > (b : Int) + 1 ∨ (b : Int) > a)) := fun h => by have := hfl.2 h; cases this
    by_cases c1 : ((b + D : Nat) : Int) < (s.size : Int)
    · by_cases c2 : bt s ((b + D : Nat) : Int) = 46
      · refine Ev.step (fun k => ?_) (j4_ev s hs a x7 b D n' h7 hba hD hbD hq hn h48 true ⟨fun _ => ⟨c1, .inl c2⟩, fun _ => rfl⟩)
        rw [sealringref05_Scan.j3, if_neg (by simp), if_pos c1, if_pos (by omega), if_pos c2]
      · by_cases c3 : bt s ((b + D : Nat) : Int) = 101
        · refine Ev.step (fun k => ?_) (j4_ev s hs a x7 b D n' h7 hba hD hbD hq hn h48 true ⟨fun _ => ⟨c1, .inr (.inl c3)⟩, fun _ => rfl⟩)
          rw [sealringref05_Scan.j3, if_neg (by simp), if_pos c1, if_pos (by omega), if_neg c2, if_pos c3]
        · refine Ev.step (fun k => ?_) (j4_ev s hs a x7 b D n' h7 hba hD hbD hq hn h48 (bt s ((b + D : Nat) : Int) == 69) (by rw [beq_iff_eq]; exact ⟨fun h => ⟨c1, .inr (.inr h)⟩, fun h => h.2.elim (fun e => absurd e c2) (fun e => e.elim (fun e => absurd e c3) id)⟩))
          rw [sealringref05_Scan.j3, if_neg (by simp), if_pos c1, if_pos (by omega), if_neg c2, if_neg c3]
    · refine Ev.step (fun k => ?_) (j4_ev s hs a x7 b D n' h7 hba hD hbD hq hn h48 false ⟨fun h => (by cases h), fun h => absurd h.1 c1⟩)
      rw [sealringref05_Scan.j3, if_neg (by simp), if_neg c1]
theorem j2_ev (s : ByteArray) (hs : s.size ≤ 140737488351232) (a : Int) (x7 : Int) (b : Nat) (h7 : x7 = 1 ∨ x7 = 0) (hb : (b : Int) = a + x7) (hbs : b ≤ s.size) :
    Ev (fun k => sealringref05_Scan.j2 k s a x7) (scanFrom s a (b : Int)) := by
  have hw : wrap64 (a + x7) = (b : Int) := by rw [← hb]; unfold wrap64; omega
  by_cases c1 : (b : Int) = (s.size : Int)
  · unfold scanFrom
    rw [if_pos c1]
    refine Ev.step (f := fun _ => some _) (fun k => ?_) (Ev.now _)
    rw [sealringref05_Scan.j2, hw, if_pos c1]
  · have hdg := digits_ev s b hs hbs (cntD s b (s.size - b + 1)) (s.size - b + 1) 0 rfl (by omega) (by omega)
    rw [Nat.zero_add] at hdg
    by_cases c2 : isDig s (b : Int) = true
    · obtain ⟨D, n', h1, h2, h3, h4, h5, h6⟩ := scan_from s a b (by omega) c2
      rw [h5]
      rw [h1] at hdg
      have hwd : wrap64 ((b : Int) + (D : Int)) = ((b + D : Nat) : Int) := by unfold wrap64; omega
      have hba : ((b : Int) > a) ↔ x7 = 1 := by rcases h7 with h | h <;> omega
      refine Ev.step (fun k => ?g2) (Ev.bind (f := ?f2) hdg ?h2)
      case g2 =>
        rw [sealringref05_Scan.j2, hw, if_neg c1]
        rfl
      case h2 =>
        refine evNeg (by omega) (evPos (by omega) (evPos (by omega) ?_))
        rw [hwd]
        by_cases c3 : bt s (b : Int) = 48
        · refine evPos c3 ?_
          by_cases c4 : (D : Int) > 1
          · exact evPos c4 (j3_ev s hs a x7 b D n' h7 hba h2 h3 h4 h6 true ⟨fun _ => ⟨c3, .inl (by omega)⟩, fun _ => rfl⟩)
          · refine evNeg c4 (j3_ev s hs a x7 b D n' h7 hba h2 h3 h4 h6 (x7 == 1) ?_)
            rw [beq_iff_eq, ← hba]
            exact ⟨fun h => ⟨c3, .inr h⟩, fun h => h.2.elim (fun e => by omega) id⟩
        · exact evNeg c3 (j3_ev s hs a x7 b D n' h7 hba h2 h3 h4 h6 false ⟨fun h => (by cases h), fun h => absurd h.1 c3⟩)
    · have hz : cntD s b (s.size - b + 1) = 0 := by unfold cntD; rw [if_neg c2]
      rw [hz] at hdg
      unfold scanFrom
      rw [if_neg c1, if_neg c2]
      refine Ev.step (fun k => ?g3) (Ev.bind (f := ?f3) hdg ?h3)
      case g3 =>
        rw [sealringref05_Scan.j2, hw, if_neg c1]
        rfl
      case h3 => exact evPos rfl (Ev.now _)
theorem refScan_ev (s : ByteArray) (hs : s.size ≤ 140737488351232) (a : Int) : Ev (fun k => sealringref05_Scan.f k s a) (numScan s a) := by
  unfold sealringref05_Scan.f numScan
  by_cases c1 : a < 0
  · rw [if_pos c1]
    refine evPos c1 (Ev.step (f := fun _ => some _) (fun k => ?_) (Ev.now _))
    rw [sealringref05_Scan.j0, if_pos rfl]
  rw [if_neg c1]
  refine evNeg c1 ?_
  by_cases c2 : a > (s.size : Int)
  · rw [if_pos c2]
    refine Ev.step (f := fun _ => some _) (fun k => ?_) (Ev.now _)
    rw [sealringref05_Scan.j0, if_pos (by simpa using c2)]
  rw [if_neg c2]
  have hd : decide (a > (s.size : Int)) = false := by simpa using c2
  simp only [hd]
  obtain ⟨b, rfl⟩ : ∃ b : Nat, a = (b : Int) := ⟨a.toNat, by omega⟩
  by_cases c3 : (b : Int) < (s.size : Int)
  · by_cases c4 : bt s (b : Int) = 45
    · rw [if_pos ⟨c3, c4⟩]
      have h2 := j2_ev s hs (b : Int) 1 (b + 1) (.inl rfl) (by omega) (by omega)
      refine Ev.step (fun k => ?_) (Ev.step (g := fun k => sealringref05_Scan.j1 k s (b : Int) 0 true) (fun k => ?_) h2)
      · rw [sealringref05_Scan.j0, if_neg (by simp), if_pos c3, if_pos (by omega)]
        rw [c4]; rfl
      · rw [sealringref05_Scan.j1, if_pos rfl]
    · rw [if_neg (fun h => c4 h.2)]
      have h2 := j2_ev s hs (b : Int) 0 b (.inr rfl) (by omega) (by omega)
      refine Ev.step (fun k => ?_) (Ev.step (g := fun k => sealringref05_Scan.j1 k s (b : Int) 0 false) (fun k => ?_) h2)
      · rw [sealringref05_Scan.j0, if_neg (by simp), if_pos c3, if_pos (by omega)]
        rw [show (bt s (b : Int) == 45) = false from by simpa using c4]
      · rw [sealringref05_Scan.j1, if_neg (by simp)]
  · rw [if_neg (fun h => c3 h.1)]
    have h2 := j2_ev s hs (b : Int) 0 b (.inr rfl) (by omega) (by omega)
    refine Ev.step (fun k => ?_) (Ev.step (g := fun k => sealringref05_Scan.j1 k s (b : Int) 0 false) (fun k => ?_) h2)
    · rw [sealringref05_Scan.j0, if_neg (by simp), if_neg c3]
    · rw [sealringref05_Scan.j1, if_neg (by simp)]
theorem num_Scan_f {s : ByteArray} (hs : s.size ≤ 140737488351232) (a : Int) : num_Scan.f s a = some (numScan s a) := by unfold num_Scan.f; rw [if_pos hs]
end Go.Proofs.Ytpedhffkmceldaa.X
