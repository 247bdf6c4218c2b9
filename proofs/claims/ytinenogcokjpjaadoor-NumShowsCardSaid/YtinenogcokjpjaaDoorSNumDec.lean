import Derived.Test.YtinenogcokjpjaaDoorSNumVal
import Derived.Test.YtinenogcokjpjaaDoorHShow
import Derived.Lib.ItoaNum
namespace Go.Proofs.YtinenogcokjpjaaDoor.X
open Go.RowKit Go.Proofs.YtinenogcokjpjaaDoorW.PrintWords Go.Proofs.YtinenogcokjpjaaDoorW.PrintLast Go.Proofs.YtinenogcokjpjaaDoorW.PrintMore
set_option linter.unusedVariables false
set_option linter.unusedSimpArgs false
/-! ### Decimal digits -/
/-- A list of bytes stands at a place of a text. -/
def At (s : ByteArray) (b : Nat) (l : List UInt8) : Prop := b + l.length ≤ s.size ∧ ∀ j (h : j < l.length), bt s ((b + j : Nat) : Int) = (l[j].toNat : Int)
theorem At.left {s : ByteArray} {b : Nat} {x y : List UInt8} (h : At s b (x ++ y)) : At s b x :=
  ⟨by have := h.1; rw [List.length_append] at this; omega, fun j hj => by
    rw [h.2 j (by rw [List.length_append]; omega), List.getElem_append_left hj]⟩
theorem At.right {s : ByteArray} {b : Nat} {x y : List UInt8} (h : At s b (x ++ y)) : At s (b + x.length) y :=
  ⟨by have := h.1; rw [List.length_append] at this; omega, fun j hj => by
    have := h.2 (x.length + j) (by rw [List.length_append]; omega)
    rw [show b + x.length + j = b + (x.length + j) by omega, this, List.getElem_append_right (by omega)]
    simp⟩
theorem dig_byte {d : Nat} (h : d < 10) : ((UInt8.ofNat (48 + d)).toNat : Int) = 48 + (d : Int) := by
  rw [UInt8.toNat_ofNat']; omega
theorem dec_val {s : ByteArray} {b : Nat} : ∀ u : Nat, At s b (Lib.decDigits u) → (∀ j, j < (Lib.decDigits u).length → isDig s ((b + j : Nat) : Int) = true) ∧ valD s b (Lib.decDigits u).length = (u : Int) ∧ 0 < (Lib.decDigits u).length ∧ (1 < (Lib.decDigits u).length → bt s (b : Int) ≠ 48) ∧ (bt s (b : Int) = 48 → u = 0) := by
  intro u
  induction u using Nat.strongRecOn with
  | _ u ih =>
    intro h
    by_cases hu : u < 10
    · rw [Lib.decDigits, dif_pos hu] at h ⊢
      have h0 := h.2 0 (by simp)
      simp only [List.getElem_cons_zero, Nat.add_zero] at h0
      rw [dig_byte hu] at h0
      have hs := h.1
      simp only [List.length_cons, List.length_nil] at hs ⊢
      refine ⟨fun j hj => ?_, ?_, by omega, fun h => by omega, fun h => by omega⟩
      · obtain rfl : j = 0 := by omega
        rw [isDig_iff]
        simp only [Nat.add_zero]
        omega
      · simp only [Nat.zero_add, valD, Nat.add_zero]; omega
    · rw [Lib.decDigits, dif_neg hu] at h ⊢
      obtain ⟨i1, i2, i3, i4, i5⟩ := ih (u / 10) (by omega) h.left
      have hr := h.right
      have h0 := hr.2 0 (by simp)
      simp only [List.getElem_cons_zero, Nat.add_zero] at h0
      rw [dig_byte (by omega)] at h0
      have hs := h.1
      rw [List.length_append] at hs ⊢
      simp only [List.length_cons, List.length_nil, Nat.zero_add] at hs ⊢
      generalize (Lib.decDigits (u / 10)).length = m at *
      refine ⟨fun j hj => ?_, ?_, by omega, fun _ => ?_, fun hz => ?_⟩
      · by_cases e : j < m
        · exact i1 j e
        · obtain rfl : j = m := by omega
          rw [isDig_iff]
          omega
      · simp only [valD, i2]; omega
      · intro hz; have := i5 hz; omega
      · have := i5 hz; omega
theorem val_dec {s : ByteArray} {b : Nat} : ∀ m : Nat, 0 < m → (∀ j, j < m → isDig s ((b + j : Nat) : Int) = true) → (m = 1 ∨ bt s (b : Int) ≠ 48) → (Lib.decDigits (valD s b m).toNat).length = m ∧ At s b (Lib.decDigits (valD s b m).toNat)
  | 0, h, _, _ => by omega
  | 1, _, hd, _ => by
    have h0 := isDig_iff.1 (hd 0 (by omega))
    simp only [Nat.add_zero] at h0
    have hv : valD s b 1 = bt s (b : Int) - 48 := by simp [valD]
    have hlt : (valD s b 1).toNat < 10 := by omega
    rw [Lib.decDigits, dif_pos hlt]
    refine ⟨rfl, by simp; omega, fun j hj => ?_⟩
    obtain rfl : j = 0 := by simpa using hj
    simp only [List.getElem_cons_zero, Nat.add_zero]
    rw [dig_byte hlt]
    omega
  | m + 2, _, hd, hz => by
    have hne : bt s (b : Int) ≠ 48 := by omega
    obtain ⟨i1, i2⟩ := val_dec (m + 1) (by omega) (fun j hj => hd j (by omega)) (.inr hne)
    have h0 := isDig_iff.1 (hd (m + 1) (by omega))
    have hge := valD_ge s b hne m (fun j hj => hd j (by omega))
    have h1 : (1 : Int) ≤ 10 ^ m := by
      have := pow10_le (Nat.zero_le m)
      simpa using this
    have hv : valD s b (m + 2) = 10 * valD s b (m + 1) + (bt s ((b + (m + 1) : Nat) : Int) - 48) := rfl
    have hq : (valD s b (m + 2)).toNat / 10 = (valD s b (m + 1)).toNat := by omega
    have hr : ((valD s b (m + 2)).toNat % 10 : Nat) = (bt s ((b + (m + 1) : Nat) : Int) - 48).toNat := by omega
    rw [Lib.decDigits, dif_neg (show ¬ (valD s b (m + 2)).toNat < 10 by omega), hq]
    have hl : (Lib.decDigits (valD s b (m + 1)).toNat ++ [UInt8.ofNat (48 + (valD s b (m + 2)).toNat % 10)]).length = m + 2 := by simp [i1]
    refine ⟨hl, by rw [hl]; omega, fun j hj => ?_⟩
    rw [hl] at hj
    by_cases e : j < m + 1
    · rw [List.getElem_append_left (by omega)]
      exact i2.2 j (by omega)
    · obtain rfl : j = m + 1 := by omega
      rw [List.getElem_append_right (by omega)]
      simp only [i1, Nat.sub_self, List.getElem_cons_zero]
      rw [dig_byte (by omega)]
      omega
/-! ### What is shown -/
theorem showB_size (n : Int) : (showB n).size = (Lib.itoa n).length := by
  show (List.toArray _).size = _
  simp
theorem showB_at (n : Int) : At (showB n) 0 (Lib.itoa n) := by
  refine ⟨by rw [showB_size]; omega, fun j hj => ?_⟩
  rw [Nat.zero_add, bt_nat _ j (by rw [showB_size]; exact hj)]
  rfl
theorem nDigits_le (u k : Nat) (h : u < 10 ^ k) (hk : 1 ≤ k) : Lib.nDigits u ≤ k := by
  induction k generalizing u with
  | zero => omega
  | succ k ih =>
    by_cases hu : u < 10
    · rw [Lib.nDigits_small hu]; omega
    · rw [Lib.nDigits_big hu]
      have hk1 : 1 ≤ k := by
        rcases Nat.eq_zero_or_pos k with rfl | h0
        · simp at h; omega
        · exact h0
      have := ih (u / 10) (by rw [Nat.pow_succ] at h; omega) hk1
      omega
theorem itoa_len {n : Int} (h0 : -9223372036854775808 ≤ n) (h1 : n ≤ 9223372036854775807) : (Lib.itoa n).length ≤ 20 := by
  unfold Lib.itoa
  split
  · rw [List.length_cons, Lib.decDigits_length]
    have := nDigits_le n.natAbs 19 (by omega) (by omega)
    omega
  · rw [Lib.decDigits_length]
    have := nDigits_le n.toNat 19 (by omega) (by omega)
    omega
theorem digits_end {s : ByteArray} {b m : Nat} (hd : ∀ j, j < m → isDig s ((b + j : Nat) : Int) = true) (he : b + m = s.size) : ∀ k, s.size < b + k → cntD s b k = m := by
  intro k hk
  have h1 := cntD_end s k b hk
  have h2 := cntD_le s k b (by omega)
  by_cases h : cntD s b k < m
  · have := hd _ h
    rw [this] at h1
    cases h1
  · omega
/-- Scanning digits that fill the rest of a text. -/
theorem scan_digits {s : ByteArray} (a : Int) (b u : Nat) (h : At s b (Lib.decDigits u)) (he : b + (Lib.decDigits u).length = s.size) (hneg : (b : Int) > a → u ≠ 0) (hab : a ≤ (b : Int)) :
    scanFrom s a (b : Int) = if (u : Int) ≤ 9007199254740991 then ((if (b : Int) > a then -(u : Int) else (u : Int)), (s.size : Int), 0) else (0, 0, 2) := by
  obtain ⟨d1, d2, d3, d4, d5⟩ := dec_val u h
  obtain ⟨D, n', e1, e2, e3, e4, e5, e6⟩ := scan_from s a b (by omega) (d1 0 d3)
  have hD : D = (Lib.decDigits u).length := by rw [← e1]; exact digits_end d1 he _ (by omega)
  subst hD
  rw [e5, d2]
  rw [d2] at e6
  unfold scanEnd
  have hc1 : ¬ (bt s (b : Int) = 48 ∧ (((b + (Lib.decDigits u).length : Nat) : Int) > (b : Int) + 1 ∨ (b : Int) > a)) := by
    rintro ⟨hz, hc | hc⟩
    · exact d4 (by omega) hz
    · exact hneg hc (d5 hz)
  rw [if_neg hc1, if_neg (by omega)]
  by_cases c : (u : Int) ≤ 9007199254740991
  · rw [if_neg (by simp; omega), if_pos c, e6 c, show (((b + (Lib.decDigits u).length : Nat) : Int)) = (s.size : Int) by omega]
    split <;> rfl
  · rw [if_pos (by simp; omega), if_neg c]
theorem dec_first {u : Nat} : ∃ d : Nat, d < 10 ∧ (Lib.decDigits u)[0]? = some (UInt8.ofNat (48 + d)) := by
  induction u using Nat.strongRecOn with
  | _ u ih =>
    by_cases hu : u < 10
    · exact ⟨u, hu, by rw [Lib.decDigits, dif_pos hu]; rfl⟩
    · obtain ⟨d, h1, h2⟩ := ih (u / 10) (by omega)
      refine ⟨d, h1, ?_⟩
      rw [Lib.decDigits, dif_neg hu, List.getElem?_append_left, h2]
      exact (List.getElem?_eq_some_iff.1 h2).1
theorem scan_show (n : Int) : numScan (showB n) 0 = if -9007199254740991 ≤ n ∧ n ≤ 9007199254740991 then (n, ((showB n).size : Int), 0) else (0, 0, 2) := by
  have hat := showB_at n
  have hsz := showB_size n
  unfold numScan
  rw [if_neg (by omega), if_neg (by omega)]
  by_cases c : n < 0
  · have hi : Lib.itoa n = 45 :: Lib.decDigits n.natAbs := by unfold Lib.itoa; rw [if_pos c]
    rw [hi] at hat hsz
    have h0 := hat.2 0 (by simp)
    simp only [Nat.add_zero, List.getElem_cons_zero] at h0
    have h0' : bt (showB n) 0 = 45 := h0
    rw [List.length_cons] at hsz
    rw [if_pos ⟨by omega, h0'⟩]
    have hr : At (showB n) (0 + 1) (Lib.decDigits n.natAbs) := At.right (x := [45]) (by simpa using hat)
    have h := scan_digits (0 : Int) 1 n.natAbs hr (by omega) (fun _ => by omega) (by omega)
    rw [show (0 : Int) + 1 = ((1 : Nat) : Int) from rfl, h]
    by_cases c2 : (n.natAbs : Int) ≤ 9007199254740991
    · rw [if_pos c2, if_pos (by omega), if_pos (by omega)]
      congr 1; omega
    · rw [if_neg c2, if_neg (by omega)]
  · have hi : Lib.itoa n = Lib.decDigits n.toNat := by unfold Lib.itoa; rw [if_neg c]
    rw [hi] at hat hsz
    obtain ⟨d, hd1, hd2⟩ := dec_first (u := n.toNat)
    obtain ⟨hl, hg⟩ := List.getElem?_eq_some_iff.1 hd2
    have h0 := hat.2 0 hl
    rw [hg, dig_byte hd1] at h0
    simp only [Nat.add_zero] at h0
    rw [if_neg (fun h => by have := h.2; have h0' : bt (showB n) 0 = 48 + (d : Int) := h0; omega)]
    have h := scan_digits (0 : Int) 0 n.toNat hat (by omega) (fun h => by omega) (by omega)
    rw [show (0 : Int) = ((0 : Nat) : Int) from rfl] at h ⊢
    rw [h]
    by_cases c2 : (n.toNat : Int) ≤ 9007199254740991
    · rw [if_pos c2, if_neg (by omega), if_pos (by omega)]
      congr 1; omega
    · rw [if_neg c2, if_neg (by omega)]
/-- What is read is shown as it stood. -/
theorem show_scan {t : ByteArray} {y e : Int} (h : numScan t 0 = (y, e, 0)) : 0 ≤ e ∧ e ≤ (t.size : Int) ∧ (showB y).data.toList = (t.extract 0 e.toNat).data.toList ∧ -9007199254740991 ≤ y ∧ y ≤ 9007199254740991 := by
  unfold numScan at h
  rw [if_neg (by omega), if_neg (by omega)] at h
  have key : ∀ (b : Nat), b ≤ 1 → (b = 1 → 0 < t.size ∧ bt t 0 = 45) → scanFrom t 0 (b : Int) = (y, e, 0) → 0 ≤ e ∧ e ≤ (t.size : Int) ∧ (showB y).data.toList = (t.extract 0 e.toNat).data.toList ∧ -9007199254740991 ≤ y ∧ y ≤ 9007199254740991 := by
    intro b hb hb1 h
    by_cases hbs : (b : Int) = (t.size : Int)
    · unfold scanFrom at h
      rw [if_pos hbs] at h
      simp at h
    by_cases hd : isDig t (b : Int) = true
    case neg =>
      unfold scanFrom at h
      rw [if_neg hbs, if_neg hd] at h
      simp at h
    have hlt := (isDig_iff.1 hd).1
    obtain ⟨D, n', e1, e2, e3, e4, e5, e6⟩ := scan_from t 0 b (by omega) hd
    rw [e5] at h
    unfold scanEnd at h
    by_cases k1 : bt t (b : Int) = 48 ∧ (((b + D : Nat) : Int) > (b : Int) + 1 ∨ (b : Int) > 0)
    · rw [if_pos k1] at h; simp at h
    rw [if_neg k1] at h
    by_cases k2 : ((b + D : Nat) : Int) < (t.size : Int) ∧ (bt t ((b + D : Nat) : Int) = 46 ∨ bt t ((b + D : Nat) : Int) = 101 ∨ bt t ((b + D : Nat) : Int) = 69)
    · rw [if_pos k2] at h; simp at h
    rw [if_neg k2] at h
    by_cases k3 : 9007199254740991 < valD t b D
    · rw [if_pos (decide_eq_true k3)] at h; simp at h
    rw [if_neg (by simp; omega)] at h
    have hn' := e6 (by omega)
    have hnn := valD_nn t b D e4
    obtain ⟨v1, v2⟩ := val_dec D e2 e4 (by
      by_cases hz : bt t (b : Int) = 48
      · left
        have : ¬ (((b + D : Nat) : Int) > (b : Int) + 1) := fun hc => k1 ⟨hz, .inl hc⟩
        omega
      · exact .inr hz)
    have fin : ∀ (l : List UInt8) (q : Nat), l.length = q → At t 0 l → l = (t.extract 0 q).data.toList := by
      intro l q hq hat
      apply List.ext_getElem?
      intro i
      have hlen : (t.extract 0 q).data.toList.length = q := by
        rw [Array.length_toList]
        have := size_ext t 0 q (by have := hat.1; omega)
        simpa using this
      by_cases hi : i < q
      · rw [List.getElem?_eq_getElem (by omega), List.getElem?_eq_getElem (by omega)]
        have h1 := hat.2 i (by omega)
        rw [Nat.zero_add] at h1
        have h2 := bt_ext t 0 q i (by have := hat.1; omega) (by omega)
        rw [Nat.zero_add, h1] at h2
        have hsz : i < (t.extract 0 q).size := by rw [size_ext t 0 q (by have := hat.1; omega)]; omega
        rw [bt_nat _ i hsz] at h2
        congr 1
        apply UInt8.toNat_inj.1
        have h3 : (t.extract 0 q).data.toList[i] = (t.extract 0 q)[i]'hsz := rfl
        rw [h3]
        omega
      · rw [List.getElem?_eq_none (by omega), List.getElem?_eq_none (by omega)]
    by_cases kb : (b : Int) > 0
    · rw [if_pos kb] at h
      simp only [Prod.mk.injEq, and_true] at h
      obtain ⟨rfl, rfl⟩ := h
      obtain rfl : b = 1 := by omega
      have hne : bt t ((1 : Nat) : Int) ≠ 48 := fun hz => k1 ⟨hz, .inr kb⟩
      have hpos : 0 < valD t 1 D := by
        obtain ⟨m, rfl⟩ : ∃ m, D = m + 1 := ⟨D - 1, by omega⟩
        have := valD_ge t 1 hne m (fun j hj => e4 j hj)
        have h1 : (1 : Int) ≤ 10 ^ m := by have := pow10_le (Nat.zero_le m); simpa using this
        omega
      refine ⟨by omega, by omega, ?_, by omega, by omega⟩
      have hi : Lib.itoa (-n') = 45 :: Lib.decDigits (valD t 1 D).toNat := by
        unfold Lib.itoa
        rw [if_pos (by omega)]
        congr 2
        omega
      show (Lib.itoa (-n')).toArray.toList = _
      rw [hi]
      simp only [Int.toNat_natCast]
      refine fin _ (1 + D) (by simp [v1]; omega) ⟨by simp [v1]; omega, fun j hj => ?_⟩
      cases j with
      | zero =>
        simp only [Nat.add_zero, List.getElem_cons_zero]
        exact (hb1 rfl).2
      | succ j =>
        simp only [List.getElem_cons_succ]
        have := v2.2 j (by simp at hj; omega)
        rw [show 0 + (j + 1) = 1 + j by omega]
        exact this
    · rw [if_neg kb] at h
      simp only [Prod.mk.injEq, and_true] at h
      obtain ⟨rfl, rfl⟩ := h
      obtain rfl : b = 0 := by omega
      refine ⟨by omega, by omega, ?_, by omega, by omega⟩
      have hi : Lib.itoa n' = Lib.decDigits (valD t 0 D).toNat := by
        unfold Lib.itoa
        rw [if_neg (by omega), hn']
      show (Lib.itoa n').toArray.toList = _
      rw [hi, Nat.zero_add]
      simp only [Int.toNat_natCast]
      exact fin _ D v1 v2
  by_cases c : (0 : Int) < (t.size : Int) ∧ bt t 0 = 45
  · rw [if_pos c] at h
    exact key 1 (by omega) (fun _ => ⟨by omega, c.2⟩) h
  · rw [if_neg c] at h
    exact key 0 (by omega) (fun h => by omega) h
end Go.Proofs.YtinenogcokjpjaaDoor.X
