import Derived.Test.YtjdgjifacdnkgaaC06B4
import Derived.SizedLaws
import Derived.ChangeSlices
import Derived.Test.YtjdgjifacdnkgaaRows
import Derived.WalkKit
import Derived.ProofKit
import Derived.OpenShut
import Derived.ShutString
import Derived.ChangeOld
import Derived.Below
section
namespace Go.Proofs.Ytjdgjifacdnkgaa.X
open Go.RowKit Go.Proofs.YtjdgjifacdnkgaaW.PrintWords Go.Proofs.YtjdgjifacdnkgaaW.PrintLast
set_option linter.unusedVariables false
set_option linter.unusedSimpArgs false
structure Mv (t u : ByteArray) (f b d : Int) : Prop where
  h0 : 0 ≤ f
  h1 : 0 ≤ f + d
  hb : b ≤ (t.size : Int)
  hu : b + d ≤ (u.size : Int)
  eq : ∀ i, f ≤ i → i < b → bt u (i + d) = bt t i
section
variable {t u : ByteArray} {f b d : Int}
theorem must_mv (m : Mv t u f b d) {c a a' : Int} {x : Unit} (ha : f ≤ a) (h : mustP t c a = .ok (x, a')) (hb : a' ≤ b) : mustP u c (a + d) = .ok (x, a' + d) ∧ a < a' := by
  unfold mustP at h
  split at h
  · split at h
    · injection h with h; injection h with h1 h2
      subst h2
      refine ⟨?_, by omega⟩
      unfold mustP
      have e := m.eq a ha (by omega)
      rw [if_pos (by have := m.hu; omega), e, if_pos (by assumption), show a + 1 + d = a + d + 1 by omega]
    · cases h
  · cases h
theorem four_len (t : ByteArray) : ∀ (k : Nat) (n a m' a' : Int), fourP t k n a = .ok (m', a') → a' = a + k
  | 0, n, a, m', a', h => by simp only [fourP, Except.ok.injEq, Prod.mk.injEq] at h; omega
  | k + 1, n, a, m', a', h => by
    unfold fourP at h
    split at h
    · split at h
      · cases h
      · have := four_len t k _ _ _ _ h; omega
    · cases h
theorem four_mv (m : Mv t u f b d) : ∀ (k : Nat) (n a m' a' : Int), f ≤ a → fourP t k n a = .ok (m', a') → a' ≤ b → fourP u k n (a + d) = .ok (m', a' + d)
  | 0, n, a, m', a', ha, h, hb => by
    simp only [fourP, Except.ok.injEq, Prod.mk.injEq] at h ⊢
    omega
  | k + 1, n, a, m', a', ha, h, hb => by
    have hl := four_len t _ _ _ _ _ h
    unfold fourP at h ⊢
    have e := m.eq a ha (by omega)
    rw [if_pos (by have := m.hu; omega), e]
    split at h
    · cases hx : hexD (bt t a) with
      | none => rw [hx] at h; cases h
      | some x =>
        rw [hx] at h
        simp only at h ⊢
        rw [show a + d + 1 = (a + 1) + d by omega]
        exact four_mv m k _ (a + 1) m' a' (by omega) h hb
    · cases h
theorem pair_mv (m : Mv t u f b d) {n a v a' : Int} (ha : f ≤ a) (h : pairP t n a = .ok (v, a')) (hb : a' ≤ b) : pairP u n (a + d) = .ok (v, a' + d) := by
  unfold pairP at h ⊢
  cases h1 : mustP t 92 a with
  | error e => rw [h1] at h; cases h
  | ok x =>
    obtain ⟨x, a1⟩ := x
    rw [h1] at h
    simp only at h
    cases h2 : mustP t 117 a1 with
    | error e => rw [h2] at h; cases h
    | ok y =>
      obtain ⟨y, a2⟩ := y
      rw [h2] at h
      simp only at h
      cases h3 : fourP t 4 0 a2 with
      | error e => rw [h3] at h; cases h
      | ok z =>
        obtain ⟨z, a3⟩ := z
        rw [h3] at h
        simp only at h
        have hl := four_len t _ _ _ _ _ h3
        split at h
        · cases h
        · split at h
          · cases h
          · injection h with h; injection h with e1 e2
            subst e2
            have g1 : ∀ (c a a' : Int) (x : Unit), mustP t c a = .ok (x, a') → a' = a + 1 := by
              intro c a a' x h
              unfold mustP at h
              split at h
              · split at h
                · injection h with h; injection h with _ h; exact h.symm
                · cases h
              · cases h
            have k1 := g1 _ _ _ _ h1
            have k2 := g1 _ _ _ _ h2
            rw [(must_mv m ha h1 (by omega)).1]
            simp only
            rw [(must_mv m (by omega) h2 (by omega)).1]
            simp only
            rw [four_mv m 4 0 a2 z a3 (by omega) h3 hb]
            simp only
            rw [if_neg (by assumption), if_neg (by assumption), e1]
theorem pair_ge {t : ByteArray} {n a v a' : Int} (h : pairP t n a = .ok (v, a')) : a < a' := by
  unfold pairP at h
  have g1 : ∀ (c a a' : Int) (x : Unit), mustP t c a = .ok (x, a') → a' = a + 1 := by
    intro c a a' x h
    unfold mustP at h
    split at h
    · split at h
      · injection h with h; injection h with _ h; exact h.symm
      · cases h
    · cases h
  cases h1 : mustP t 92 a with
  | error e => rw [h1] at h; cases h
  | ok x =>
    obtain ⟨x, a1⟩ := x
    rw [h1] at h
    simp only at h
    cases h2 : mustP t 117 a1 with
    | error e => rw [h2] at h; cases h
    | ok y =>
      obtain ⟨y, a2⟩ := y
      rw [h2] at h
      simp only at h
      cases h3 : fourP t 4 0 a2 with
      | error e => rw [h3] at h; cases h
      | ok z =>
        obtain ⟨z, a3⟩ := z
        rw [h3] at h
        simp only at h
        have hl := four_len t _ _ _ _ _ h3
        have k1 := g1 _ _ _ _ h1
        have k2 := g1 _ _ _ _ h2
        split at h
        · cases h
        · split at h
          · cases h
          · injection h with h; injection h with e1 e2; omega
theorem esc_mv (m : Mv t u f b d) {a v a' : Int} (ha : f ≤ a) (h : escP t a = .ok (v, a')) (hb : a' ≤ b) : escP u (a + d) = .ok (v, a' + d) := by
  have hp := esc_place (by have := m.h0; omega) h
  unfold escP at h ⊢
  have e := m.eq a ha (by omega)
  rw [if_pos (by have := m.hu; omega), e]
  split at h
  · cases hs : shortP (bt t a) with
    | some x =>
      rw [hs] at h
      simp only [Except.ok.injEq, Prod.mk.injEq] at h ⊢
      omega
    | none =>
      rw [hs] at h
      simp only at h ⊢
      split at h
      · rename_i h7
        rw [if_pos h7]
        cases h4 : fourP t 4 0 (a + 1) with
        | error e => rw [h4] at h; cases h
        | ok z =>
          obtain ⟨z, a3⟩ := z
          rw [h4] at h
          simp only at h
          have mv : a3 ≤ b → fourP u 4 0 (a + d + 1) = .ok (z, a3 + d) := fun hb3 => by
            rw [show a + d + 1 = (a + 1) + d by omega]
            exact four_mv m 4 0 (a + 1) z a3 (by omega) h4 hb3
          split at h
          · injection h with h; injection h with e1 e2
            subst e1 e2
            rw [mv hb]
            simp only
            rw [if_pos (by assumption)]
          · split at h
            · injection h with h; injection h with e1 e2
              subst e1 e2
              rw [mv hb]
              simp only
              rw [if_neg (by assumption), if_pos (by assumption)]
            · split at h
              · cases h
              · have hl := four_len t _ _ _ _ _ h4
                have hpl := pair_ge h
                rw [mv (by omega)]
                simp only
                rw [if_neg (by assumption), if_neg (by assumption), if_neg (by assumption)]
                exact pair_mv m (by omega) h hb
      · cases h
  · cases h
theorem dec_mv (m : Mv t u f b d) {a : Nat} {v : Int} {n : Nat} (ha : f ≤ (a : Int)) (h : dec t a = some (v, n)) (hb : (a : Int) + n ≤ b) {a' : Nat} (ha' : (a' : Int) = a + d) : dec u a' = some (v, n) := by
  have hr := dec_range h
  have b0 := m.eq a ha (by omega)
  rw [← ha'] at b0
  have bi : ∀ i : Nat, (i : Int) < n → bt u ((a' + i : Nat) : Int) = bt t ((a + i : Nat) : Int) := fun i hi => by
    have := m.eq ((a + i : Nat) : Int) (by omega) (by omega)
    rw [show ((a + i : Nat) : Int) + d = ((a' + i : Nat) : Int) by omega] at this
    exact this
  have hu := m.hu
  unfold dec at h ⊢
  rw [if_neg (by omega)]
  split at h
  · cases h
  rw [b0]
  split at h
  · rename_i c1; rw [if_pos c1]; exact h
  · rename_i c1
    rw [if_neg c1]
    split at h
    · rename_i c2
      rw [if_pos c2]
      split at h
      · rename_i c3
        simp only [Option.some.injEq, Prod.mk.injEq] at h
        obtain ⟨rfl, rfl⟩ := h
        rw [bi 1 (by omega), if_pos ⟨by omega, c3.2⟩]
      · cases h
    · rename_i c2
      rw [if_neg c2]
      split at h
      · rename_i c3
        rw [if_pos c3]
        split at h
        · rename_i c4
          simp only [Option.some.injEq, Prod.mk.injEq] at h
          obtain ⟨rfl, rfl⟩ := h
          rw [bi 1 (by omega), bi 2 (by omega), if_pos ⟨by omega, c4.2⟩]
        · cases h
      · rename_i c3
        rw [if_neg c3]
        split at h
        · rename_i c4
          rw [if_pos c4]
          split at h
          · rename_i c5
            simp only [Option.some.injEq, Prod.mk.injEq] at h
            obtain ⟨rfl, rfl⟩ := h
            rw [bi 1 (by omega), bi 2 (by omega), bi 3 (by omega), if_pos ⟨by omega, c5.2⟩]
          · cases h
        · cases h
theorem text_mv (m : Mv t u f b d) : ∀ (k : Nat) (a : Int) (l l' : List Int) (a' : Int), f ≤ a → textP t k a l = .ok (l', a') → a' ≤ b → ∀ k' : Nat, a' - a < k' → textP u k' (a + d) l = .ok (l', a' + d)
  | 0, a, l, l', a', ha, h, hb, k', hk => by simp [textP] at h
  | k + 1, a, l, l', a', ha, h, hb, k', hk => by
    have hp := text_place t _ _ _ _ _ (by have := m.h0; omega) h
    obtain ⟨k', rfl⟩ : ∃ q, k' = q + 1 := ⟨k' - 1, by omega⟩
    unfold textP at h ⊢
    have e := m.eq a ha (by omega)
    rw [if_pos (by have := m.hu; omega), e]
    rw [if_pos (show a < (t.size : Int) by omega)] at h
    split at h
    · rename_i c2
      rw [if_pos c2]
      simp only [Except.ok.injEq, Prod.mk.injEq] at h ⊢
      exact ⟨h.1, by omega⟩
    · rename_i c2
      rw [if_neg c2]
      split at h
      · rename_i c3
        rw [if_pos c3]
        cases he : escP t (a + 1) with
        | error x => rw [he] at h; cases h
        | ok x =>
          obtain ⟨v, a1⟩ := x
          rw [he] at h
          simp only at h
          have hq := esc_place (by have := m.h0; omega) he
          have hp1 := text_place t _ _ _ _ _ (by have := m.h0; omega) h
          rw [show a + d + 1 = (a + 1) + d by omega, esc_mv m (by omega) he (by omega)]
          exact text_mv m k a1 _ _ _ (by omega) h hb k' (by omega)
      · rename_i c3
        rw [if_neg c3]
        split at h
        · cases h
        · rename_i c4
          rw [if_neg c4]
          cases hd : dec t a.toNat with
          | none => rw [hd] at h; cases h
          | some x =>
            obtain ⟨v, n⟩ := x
            rw [hd] at h
            simp only at h
            have hr := dec_range hd
            have h0 := m.h0
            have h1 := m.h1
            have hp1 := text_place t _ _ _ _ _ (by omega) h
            rw [dec_mv m (a := a.toNat) (by omega) hd (by omega) (a' := (a + d).toNat) (by omega)]
            simp only
            rw [show a + d + (n : Int) = (a + n) + d by omega]
            exact text_mv m k (a + n) _ _ _ (by omega) h hb k' (by omega)
theorem unq_mv (m : Mv t u f b d) {s : ByteArray} {a' : Int} (h : unqP t f = (s, a', 0)) (hb : a' ≤ b) : unqP u (f + d) = (s, a' + d, 0) := by
  have hp := unq_place m.h0 h
  have h0 := m.h0
  have h1 := m.h1
  have hu := m.hu
  have e := m.eq f (Int.le_refl _) (by omega)
  unfold unqP at h ⊢
  rw [if_neg (by omega), if_neg (by omega), if_neg (by omega)] at h
  rw [if_neg (by omega), if_neg (by omega), if_neg (by omega), e]
  split at h
  · rename_i c
    rw [if_pos c]
    cases hx : textP t (t.size + 1) (f + 1) [] with
    | error x => rw [hx] at h; simp only [Prod.mk.injEq] at h; obtain ⟨_, _, rfl⟩ := h; exact absurd hx (text_ne t _ _ _ (by omega) (by omega) (by omega))
    | ok x =>
      obtain ⟨l, b1⟩ := x
      rw [hx] at h
      simp only [Prod.mk.injEq] at h
      obtain ⟨rfl, rfl, _⟩ := h
      rw [show f + d + 1 = (f + 1) + d by omega, text_mv m (t.size + 1) (f + 1) [] l b1 (by omega) hx hb (u.size + 1) (by omega)]
  · simp at h
def stopN (u : ByteArray) (i : Int) : Prop := i < (u.size : Int) → ¬ (48 ≤ bt u i ∧ bt u i ≤ 57) ∧ bt u i ≠ 46 ∧ bt u i ≠ 101 ∧ bt u i ≠ 69
theorem stop_dig {u : ByteArray} {i : Int} (h : stopN u i) : isDig u i = false := by
  unfold isDig
  by_cases c : i < (u.size : Int)
  · have := h c
    simp only [c, decide_true, Bool.true_and, Bool.and_eq_false_iff, decide_eq_false_iff_not]
    omega
  · simp [c]
theorem dig_mv (m : Mv t u f b d) {i : Int} (h1 : f ≤ i) (h2 : i < b) : isDig u (i + d) = isDig t i := by
  unfold isDig
  rw [m.eq i h1 h2, decide_eq_true (show i < (t.size : Int) by have := m.hb; omega), decide_eq_true (show i + d < (u.size : Int) by have := m.hu; omega)]
theorem scanL_mv (m : Mv t u f b d) : ∀ (k : Nat) (n i : Int) (o : Bool) (n' j : Int) (o' : Bool), f ≤ i → i ≤ (t.size : Int) → (t.size : Int) - i < k → scanL t k n i o = (n', j, o') → j ≤ b → stopN u (j + d) → ∀ k' : Nat, j - i < k' → scanL u k' n (i + d) o = (n', j + d, o')
  | 0, n, i, o, n', j, o', hi, hit, hk, h, hj, hs, k', hk' => by omega
  | k + 1, n, i, o, n', j, o', hi, hit, hk, h, hj, hs, k', hk' => by
    have hge := scanL_ge t (k + 1) n i o hit
    rw [h] at hge
    simp only at hge
    obtain ⟨k', rfl⟩ : ∃ q, k' = q + 1 := ⟨k' - 1, by omega⟩
    unfold scanL at h ⊢
    by_cases hd : isDig t i = true
    · rw [if_pos hd] at h
      have hi2 : i < (t.size : Int) := by simp [isDig] at hd; exact hd.1
      have hij : i + 1 ≤ j := by
        split at h
        · have := scanL_ge t k 9007199254740991 (i + 1) true (by omega); rw [h] at this; exact this.1
        · have := scanL_ge t k (10 * n + (bt t i - 48)) (i + 1) o (by omega); rw [h] at this; exact this.1
      rw [if_pos (by rw [dig_mv m hi (by omega)]; exact hd), m.eq i hi (by omega), show i + d + 1 = (i + 1) + d by omega]
      split at h
      · rename_i c
        rw [if_pos c]
        exact scanL_mv m k _ (i + 1) _ n' j o' (by omega) (by omega) (by omega) h hj hs k' (by omega)
      · rename_i c
        rw [if_neg c]
        exact scanL_mv m k _ (i + 1) _ n' j o' (by omega) (by omega) (by omega) h hj hs k' (by omega)
    · rw [if_neg hd] at h
      simp only [Prod.mk.injEq] at h
      obtain ⟨rfl, rfl, rfl⟩ := h
      rw [if_neg (by rw [stop_dig hs]; simp)]
theorem scanEnd_mv (m : Mv t u f b d) {a c n i : Int} {o : Bool} {x y : Int} (hc : f ≤ c) (hcb : c < b) (hs : stopN u (i + d)) (h : scanEnd t a c n i o = (x, y, 0)) : scanEnd u (a + d) (c + d) n (i + d) o = (x, y + d, 0) := by
  unfold scanEnd at h ⊢
  rw [m.eq c hc hcb]
  split at h
  · simp at h
  · rename_i c1
    rw [if_neg (by omega)]
    split at h
    · simp at h
    · rw [if_neg (fun hh => by have := hs hh.1; omega)]
      split at h
      · simp at h
      · rename_i c3
        rw [if_neg c3]
        split at h
        · rename_i c4
          rw [if_pos (by omega)]
          simp only [Prod.mk.injEq, and_true] at h ⊢
          exact ⟨h.1, by omega⟩
        · rename_i c4
          rw [if_neg (by omega)]
          simp only [Prod.mk.injEq, and_true] at h ⊢
          exact ⟨h.1, by omega⟩
theorem scanFrom_mv (m : Mv t u f b d) {a c x y : Int} (hc : f ≤ c) (h : scanFrom t a c = (x, y, 0)) (hct : c ≤ (t.size : Int)) (hy : y ≤ b) (hs : stopN u (y + d)) : scanFrom u (a + d) (c + d) = (x, y + d, 0) := by
  have hp := scanFrom_place hct h
  have h0 := m.h0
  have h1 := m.h1
  have hu := m.hu
  unfold scanFrom at h ⊢
  rw [if_neg (by omega)] at h
  rw [if_neg (by omega), dig_mv m hc (by omega)]
  split at h
  · rename_i hd
    rw [if_pos hd]
    have e := scanEnd_place h
    cases hL : scanL t (((t.size : Int) - c).toNat + 1) 0 c false with
    | mk n' r =>
      obtain ⟨j, o'⟩ := r
      rw [hL] at h e
      simp only at h e
      subst e
      rw [scanL_mv m _ 0 c false n' y o' hc hct (by omega) hL hy hs (((u.size : Int) - (c + d)).toNat + 1) (by omega)]
      exact scanEnd_mv m hc (by omega) hs h
  · simp at h
theorem num_mv (m : Mv t u f b d) {x y : Int} (hf : f < (t.size : Int)) (h : numScan t f = (x, y, 0)) (hy : y ≤ b) (hs : stopN u (y + d)) : numScan u (f + d) = (x, y + d, 0) := by
  have hp := num_place m.h0 hf h
  have h0 := m.h0
  have h1 := m.h1
  have hu := m.hu
  unfold numScan at h ⊢
  rw [if_neg (by omega), if_neg (by omega)] at h
  rw [if_neg (by omega), if_neg (by omega), m.eq f (Int.le_refl _) (by omega)]
  split at h
  · rename_i c
    rw [if_pos ⟨by omega, c.2⟩, show f + d + 1 = (f + 1) + d by omega]
    exact scanFrom_mv m (by omega) h (by omega) hy hs
  · rename_i c
    rw [if_neg (fun hh => c ⟨hf, hh.2⟩)]
    exact scanFrom_mv m (Int.le_refl _) h (by omega) hy hs
theorem ext_mv (m : Mv t u f b d) (n : Nat) (hn : f + n ≤ b) : u.extract (f + d).toNat ((f + d).toNat + n) = t.extract f.toNat (f.toNat + n) := by
  have h0 := m.h0
  have h1 := m.h1
  have hu := m.hu
  have hb := m.hb
  refine bytes_eq (by rw [size_ext _ _ _ (by omega), size_ext _ _ _ (by omega)]; omega) (fun i hi => ?_)
  rw [size_ext _ _ _ (by omega)] at hi
  rw [bt_ext u _ _ i (by omega) (by omega), bt_ext t _ _ i (by omega) (by omega)]
  have := m.eq (((f.toNat + i : Nat) : Int)) (by omega) (by omega)
  rw [← this]
  congr 1
  omega
theorem pre_mv (m : Mv t u f b d) (w : ByteArray) (hw : f + w.size ≤ b) : preP u (f + d) w = preP t f w := by
  have h0 := m.h0
  have h1 := m.h1
  have hu := m.hu
  have hb := m.hb
  rw [← wordN (by omega) (by omega), ← wordN (by omega) (by omega)]
  unfold wordB
  rw [ext_mv m w.size hw, decide_eq_true (show (w.size : Int) ≤ (t.size : Int) - f by omega), decide_eq_true (show (w.size : Int) ≤ (u.size : Int) - (f + d) by omega)]
theorem tok_mv {kd n a' : Int} {s : ByteArray} (m : Mv t u f b d) (hf : f ≤ (t.size : Int)) (h : tokP t f = (kd, f, a', n, s, 0)) (hk : kd ≠ 12) (hb : a' ≤ b) (hs : kd = 11 → stopN u (a' + d)) : tokP u (f + d) = (kd, f + d, a' + d, n, s, 0) := by
  have hp := tok_place m.h0 hf h
  have hft : f < (t.size : Int) := by omega
  have hfb : f < b := by omega
  have h0 := m.h0
  have hu := m.hu
  have e := m.eq f (Int.le_refl _) hfb
  unfold tokP at h ⊢
  rw [if_neg (by omega)] at h
  rw [if_neg (by omega), e]
  cases h1 : signP (bt t f) with
  | some k =>
    rw [h1] at h
    simp only [Prod.mk.injEq] at h ⊢
    obtain ⟨rfl, _, rfl, rfl, rfl, _⟩ := h
    (try simp only [true_and, and_true]); omega
  | none =>
    rw [h1] at h
    simp only at h ⊢
    cases h2 : nameP (bt t f) with
    | some k =>
      rw [h2] at h
      simp only at h ⊢
      split at h
      · rename_i c
        simp only [Prod.mk.injEq] at h
        obtain ⟨rfl, _, rfl, rfl, rfl, _⟩ := h
        rw [pre_mv m (nameS k) (by omega), if_pos c]
        simp only [Prod.mk.injEq]
        (try simp only [true_and, and_true]); omega
      · simp [failP] at h
    | none =>
      rw [h2] at h
      simp only at h ⊢
      split at h
      · rename_i c
        rw [if_pos c]
        cases hq : unqP t f with
        | mk s' r =>
          obtain ⟨b1, x⟩ := r
          rw [hq] at h
          simp only at h
          split at h
          · rename_i cx
            subst cx
            simp only [Prod.mk.injEq] at h
            obtain ⟨rfl, _, rfl, rfl, rfl, _⟩ := h
            rw [unq_mv m hq hb]
            rfl
          · simp only [failP, Prod.mk.injEq] at h; omega
      · rename_i c
        rw [if_neg c]
        split at h
        · rename_i c2
          rw [if_pos c2]
          cases hq : numScan t f with
          | mk v r =>
            obtain ⟨b1, x⟩ := r
            rw [hq] at h
            simp only at h
            split at h
            · rename_i cx
              subst cx
              simp only [Prod.mk.injEq] at h
              obtain ⟨rfl, _, rfl, rfl, rfl, _⟩ := h
              rw [num_mv m hft hq hb (hs rfl)]
              rfl
            · simp only [failP, Prod.mk.injEq] at h; omega
        · simp [failP] at h
end
theorem tok_nonblank {t : ByteArray} {f a' kd n : Int} {s : ByteArray} (hf : f ≠ (t.size : Int)) (h : tokP t f = (kd, f, a', n, s, 0)) : blankI (bt t f) = false := by
  unfold tokP at h
  rw [if_neg hf] at h
  unfold blankI
  have key : ∀ c : Int, bt t f = c → (c = 9 ∨ c = 10 ∨ c = 13 ∨ c = 32) → False := by
    intro c hc hcs
    rw [hc] at h
    have hs : signP c = none := by rcases hcs with rfl | rfl | rfl | rfl <;> decide
    have hn : nameP c = none := by rcases hcs with rfl | rfl | rfl | rfl <;> decide
    rw [hs, hn] at h
    simp only at h
    rw [if_neg (by omega), if_neg (by omega)] at h
    simp [failP] at h
  by_cases c1 : bt t f = 9
  · exact (key _ c1 (by simp)).elim
  · by_cases c2 : bt t f = 10
    · exact (key _ c2 (by simp)).elim
    · by_cases c3 : bt t f = 13
      · exact (key _ c3 (by simp)).elim
      · by_cases c4 : bt t f = 32
        · exact (key _ c4 (by simp)).elim
        · simp [c1, c2, c3, c4]
theorem skip_blank (t : ByteArray) : ∀ (k : Nat) (a i : Int), a ≤ i → i < skipP t k a → blankI (bt t i) = true
  | 0, a, i, h1, h2 => by simp only [skipP] at h2; omega
  | k + 1, a, i, h1, h2 => by
    unfold skipP at h2
    split at h2
    · split at h2
      · by_cases e : i = a
        · subst e; assumption
        · exact skip_blank t k (a + 1) i (by omega) h2
      · omega
    · omega
theorem skip_to (t : ByteArray) : ∀ (k : Nat) (a p : Int), a ≤ p → p ≤ (t.size : Int) → (∀ i, a ≤ i → i < p → blankI (bt t i) = true) → (p < (t.size : Int) → blankI (bt t p) = false) → p - a < k → skipP t k a = p
  | 0, a, p, h1, h2, h3, h4, h5 => by omega
  | k + 1, a, p, h1, h2, h3, h4, h5 => by
    unfold skipP
    by_cases e : a = p
    · subst e
      by_cases c : a < (t.size : Int)
      · rw [if_pos c, if_neg (by rw [h4 c]; simp)]
      · rw [if_neg c]
    · rw [if_pos (by omega), if_pos (h3 a (by omega) (by omega))]
      exact skip_to t k (a + 1) p (by omega) h2 (fun i g1 g2 => h3 i (by omega) g2) h4 (by omega)
end Go.Proofs.Ytjdgjifacdnkgaa.X
end
section
namespace Go.Proofs.Ytjdgjifacdnkgaa.X
open Go.RowKit Go.Proofs.YtjdgjifacdnkgaaW.PrintWords Go.Proofs.YtjdgjifacdnkgaaW.PrintLast
set_option linter.unusedVariables false
set_option linter.unusedSimpArgs false
theorem bt_app_l {a b : ByteArray} {i : Nat} (h : i < a.size) : bt (a ++ b) (i : Int) = bt a (i : Int) := by
  rw [bt_nat _ i (by rw [ByteArray.size_append]; omega), bt_nat a i h, ByteArray.getElem_append_left h]
theorem bt_app_r {a b : ByteArray} {i : Nat} (h : i < b.size) : bt (a ++ b) ((a.size + i : Nat) : Int) = bt b (i : Int) := by
  rw [bt_nat _ (a.size + i) (by rw [ByteArray.size_append]; omega), bt_nat b i h, ByteArray.getElem_append_right (by omega)]
  congr 2
  simp
abbrev all4 : ByteArray := ⟨#[9, 10, 13, 32]⟩
def sp1 : ByteArray := ⟨#[32]⟩
def nl1 : ByteArray := ⟨#[10]⟩
def exS (more : List Int) (i : Nat) : ByteArray := if (i : Int) < (more.length : Int) then all4.extract (Int.tmod (rd more i) 4).toNat ((Int.tmod (rd more i) 4 + 1) % 256).toNat else ⟨#[]⟩
def pcs (t : ByteArray) (more : List Int) : Nat → List S24 → ByteArray
  | _, [] => nl1
  | i, x :: xs => (sp1 ++ (exS more i ++ t.extract x.f1.toNat x.f2.toNat)) ++ pcs t more (i + 1) xs
theorem mod4 (x : Int) (h0 : 0 ≤ x) (h1 : x ≤ 255) : 0 ≤ Int.tmod x 4 ∧ Int.tmod x 4 ≤ 3 := by
  rw [Int.tmod_eq_emod_of_nonneg h0]; omega
theorem u8_bounds {x : Int} (h : (Lit.int .u8 x).wf = true) : 0 ≤ x ∧ x ≤ 255 := by
  simpa [Lit.wf, IntKind.min, IntKind.max, IntKind.signed, IntKind.bits] using h
theorem rd_bounds {more : List Int} (hm : ∀ x ∈ more, (Lit.int .u8 x).wf = true) (i : Nat) : 0 ≤ rd more (i : Int) ∧ rd more (i : Int) ≤ 255 := by
  unfold rd
  rw [show ((i : Int)).toNat = i from rfl, List.getD_eq_getElem?_getD]
  cases h : more[i]? with
  | none => simp
  | some x => exact u8_bounds (hm x (List.mem_of_getElem? h))
theorem exS_is {more : List Int} (hm : ∀ x ∈ more, (Lit.int .u8 x).wf = true) (i : Nat) : (exS more i).size ≤ 1 ∧ ∀ j : Nat, j < (exS more i).size → blankI (bt (exS more i) (j : Int)) = true := by
  unfold exS
  split
  · have h1 := rd_bounds hm i
    have h := mod4 _ h1.1 h1.2
    generalize Int.tmod (rd more (i : Int)) 4 = m at h
    have : m = 0 ∨ m = 1 ∨ m = 2 ∨ m = 3 := by omega
    rcases this with rfl | rfl | rfl | rfl <;> decide +kernel
  · exact ⟨by decide, fun j hj => absurd hj (Nat.not_lt_zero _)⟩
theorem suf_step {t : ByteArray} {k : Nat} {a f : Int} {x : S24} {xs : List S24} (h : lexL t k a = some (x :: xs, f, 0)) :
    nextP t a = (x.f0, x.f1, x.f2, x.f3, x.f4, 0) ∧ ((x.f0 = 12 ∧ xs = []) ∨ (x.f0 ≠ 12 ∧ ∃ k', lexL t k' x.f2 = some (xs, f, 0))) := by
  cases k with
  | zero => simp [lexL] at h
  | succ k =>
    unfold lexL at h
    cases hN : nextP t a with
    | mk kd y =>
    obtain ⟨f', b, nn, s, e⟩ := y
    rw [hN] at h
    simp only at h
    by_cases c1 : e = 0
    · subst c1
      rw [if_pos rfl] at h
      by_cases c2 : kd = 12
      · rw [if_pos c2] at h
        simp only [Option.some.injEq, Prod.mk.injEq, List.cons.injEq] at h
        obtain ⟨⟨rfl, rfl⟩, _⟩ := h
        exact ⟨rfl, .inl ⟨c2, rfl⟩⟩
      · rw [if_neg c2] at h
        obtain ⟨⟨ys, f2, en'⟩, H2, e2⟩ := Option.map_eq_some_iff.1 h
        simp only [Prod.mk.injEq, List.cons.injEq] at e2
        obtain ⟨⟨rfl, rfl⟩, rfl, rfl⟩ := e2
        exact ⟨rfl, .inr ⟨c2, k, H2⟩⟩
    · rw [if_neg c1] at h
      simp at h
theorem lexL_nil {t : ByteArray} {k : Nat} {a f : Int} (h : lexL t k a = some ([], f, 0)) : False := by
  obtain ⟨pre, x, e, _⟩ := (lexL_last _ _ _ _ _ _ h).1 rfl
  cases pre <;> simp at e
theorem next_tok {t : ByteArray} {a : Int} (h0 : 0 ≤ a) (h1 : a ≤ (t.size : Int)) : nextP t a = tokP t (skipP t (t.size + 1) a) := by
  unfold nextP
  rw [if_neg (by omega), if_neg (by omega)]
theorem tok_end (t : ByteArray) : tokP t (t.size : Int) = (12, (t.size : Int), (t.size : Int), 0, ⟨#[]⟩, 0) := by
  unfold tokP; rw [if_pos rfl]
theorem pcs_head (t : ByteArray) (more : List Int) (i : Nat) (xs : List S24) : 0 < (pcs t more i xs).size ∧ (bt (pcs t more i xs) 0 = 32 ∨ bt (pcs t more i xs) 0 = 10) := by
  cases xs with
  | nil => exact ⟨show 0 < nl1.size by decide, .inr (show bt nl1 0 = 10 by decide +kernel)⟩
  | cons x xs =>
    unfold pcs
    refine ⟨by simp only [ByteArray.size_append]; have : sp1.size = 1 := by decide
               omega, .inl ?_⟩
    have h1 : (0 : Nat) < sp1.size := by decide
    have e1 := bt_app_l (a := sp1 ++ (exS more i ++ t.extract x.f1.toNat x.f2.toNat)) (b := pcs t more (i + 1) xs) (i := 0) (by rw [ByteArray.size_append]; omega)
    have e2 := bt_app_l (a := sp1) (b := exS more i ++ t.extract x.f1.toNat x.f2.toNat) (i := 0) h1
    rw [show ((0 : Nat) : Int) = 0 from rfl] at e1 e2
    rw [e1, e2]
    decide +kernel
abbrev key (x : S24) : Int × Int × ByteArray := (x.f0, x.f3, x.f4)
theorem blanks_words {t u : ByteArray} {more : List Int} (hm : ∀ x ∈ more, (Lit.int .u8 x).wf = true) : ∀ (xs : List S24) (i k0 : Nat) (a f : Int) (S : ByteArray), lexL t k0 a = some (xs, f, 0) → u = S ++ pcs t more i xs →
    ∀ k : Nat, xs.length ≤ k → ∃ ys, lexL u k (S.size : Int) = some (ys, 0, 0) ∧ ys.map key = xs.map key
  | [], i, k0, a, f, S, h, hu, k, hk => (lexL_nil h).elim
  | x :: xs, i, k0, a, f, S, h, hu, k, hk => by
    obtain ⟨k, rfl⟩ : ∃ q, k = q + 1 := ⟨k - 1, by simp at hk; omega⟩
    obtain ⟨hN, hcase⟩ := suf_step h
    have hp := next_place hN
    have hex := exS_is hm i
    have hT : (t.extract x.f1.toNat x.f2.toNat).size = min x.f2.toNat t.size - x.f1.toNat := by rw [ByteArray.size_extract]
    have hs1 : sp1.size = 1 := by decide
    have hph := pcs_head t more (i + 1) xs
    unfold pcs at hu
    generalize hP : pcs t more (i + 1) xs = P at hu hph
    generalize hE : exS more i = E at hu hex
    generalize hW : t.extract x.f1.toNat x.f2.toNat = W at hu hT
    have husz : u.size = S.size + 1 + E.size + W.size + P.size := by rw [hu]; simp only [ByteArray.size_append]; omega
    have u0 : bt u ((S.size : Nat) : Int) = 32 := by
      have e1 := bt_app_r (a := S) (b := (sp1 ++ (E ++ W)) ++ P) (i := 0) (by simp only [ByteArray.size_append]; omega)
      have e2 := bt_app_l (a := sp1 ++ (E ++ W)) (b := P) (i := 0) (by simp only [ByteArray.size_append]; omega)
      have e3 := bt_app_l (a := sp1) (b := E ++ W) (i := 0) (by omega)
      rw [hu, show (S.size : Int) = ((S.size + 0 : Nat) : Int) by omega, e1, e2, e3]
      decide +kernel
    have uE : ∀ j : Nat, j < E.size → bt u ((S.size + 1 + j : Nat) : Int) = bt E (j : Int) := fun j hj => by
      have e1 := bt_app_r (a := S) (b := (sp1 ++ (E ++ W)) ++ P) (i := 1 + j) (by simp only [ByteArray.size_append]; omega)
      have e2 := bt_app_l (a := sp1 ++ (E ++ W)) (b := P) (i := 1 + j) (by simp only [ByteArray.size_append]; omega)
      have e3 := bt_app_r (a := sp1) (b := E ++ W) (i := j) (by simp only [ByteArray.size_append]; omega)
      have e4 := bt_app_l (a := E) (b := W) (i := j) hj
      rw [hs1] at e3
      rw [hu, show S.size + 1 + j = S.size + (1 + j) by omega, e1, e2, e3, e4]
    have uW : ∀ j : Nat, j < W.size → bt u ((S.size + 1 + E.size + j : Nat) : Int) = bt W (j : Int) := fun j hj => by
      have e1 := bt_app_r (a := S) (b := (sp1 ++ (E ++ W)) ++ P) (i := 1 + (E.size + j)) (by simp only [ByteArray.size_append]; omega)
      have e2 := bt_app_l (a := sp1 ++ (E ++ W)) (b := P) (i := 1 + (E.size + j)) (by simp only [ByteArray.size_append]; omega)
      have e3 := bt_app_r (a := sp1) (b := E ++ W) (i := E.size + j) (by simp only [ByteArray.size_append]; omega)
      have e4 := bt_app_r (a := E) (b := W) (i := j) hj
      rw [hs1] at e3
      rw [hu, show S.size + 1 + E.size + j = S.size + (1 + (E.size + j)) by omega, e1, e2, e3, e4]
    have uP : bt u ((S.size + 1 + E.size + W.size : Nat) : Int) = bt P 0 := by
      have e1 := bt_app_r (a := S) (b := (sp1 ++ (E ++ W)) ++ P) (i := 1 + (E.size + W.size)) (by simp only [ByteArray.size_append]; omega)
      have e2 := bt_app_r (a := sp1 ++ (E ++ W)) (b := P) (i := 0) (by omega)
      rw [show (sp1 ++ (E ++ W)).size + 0 = 1 + (E.size + W.size) by simp only [ByteArray.size_append]; omega] at e2
      rw [hu, show S.size + 1 + E.size + W.size = S.size + (1 + (E.size + W.size)) by omega, e1, e2]
      rfl
    have blanks : ∀ j : Int, (S.size : Int) ≤ j → j < ((S.size + 1 + E.size : Nat) : Int) → blankI (bt u j) = true := fun j h1 h2 => by
      by_cases e : j = (S.size : Int)
      · rw [e, u0]; decide
      · have := uE (j - (S.size + 1)).toNat (by omega)
        rw [show ((S.size + 1 + (j - (S.size + 1)).toNat : Nat) : Int) = j by omega] at this
        rw [this]
        exact hex.2 _ (by omega)
    unfold lexL
    rw [next_tok (t := u) (by omega) (by omega)]
    rcases hcase with ⟨h12, rfl⟩ | ⟨h12, k', hL⟩
    ·
      have hf : x.f1 = (t.size : Int) := by omega
      rw [hf] at hN
      have hN2 := hN
      rw [next_tok (by omega) (by omega), ← hp.2.2.1, hf, tok_end] at hN2
      simp only [Prod.mk.injEq] at hN2
      obtain ⟨g0, _, g2, g3, g4, _⟩ := hN2
      have hW0 : W.size = 0 := by omega
      have hP1 : P.size = 1 := by rw [← hP]; show nl1.size = 1; decide
      have hPb : bt P 0 = 10 := by rw [← hP]; show bt nl1 0 = 10; decide +kernel
      rw [skip_to u (u.size + 1) (S.size : Int) (u.size : Int) (by omega) (Int.le_refl _) (fun j h1 h2 => by
        by_cases e : j < ((S.size + 1 + E.size : Nat) : Int)
        · exact blanks j h1 e
        · rw [show j = ((S.size + 1 + E.size + W.size : Nat) : Int) by omega, uP, hPb]; decide) (fun h => by omega) (by omega), tok_end]
      simp only [if_pos]
      refine ⟨_, rfl, ?_⟩
      simp only [List.map_cons, List.map_nil, key, ← g0, ← g3, ← g4]
    · have hf : x.f1 < x.f2 ∧ x.f2 ≤ (t.size : Int) := by omega
      have htk : tokP t x.f1 = (x.f0, x.f1, x.f2, x.f3, x.f4, 0) := by
        rw [next_tok (by omega) (by omega), ← hp.2.2.1] at hN; exact hN
      have hmv : Mv t u x.f1 x.f2 (((S.size + 1 + E.size : Nat) : Int) - x.f1) := by
        refine ⟨by omega, by omega, by omega, by omega, fun j h1 h2 => ?_⟩
        have := uW (j - x.f1).toNat (by omega)
        rw [show j + (((S.size + 1 + E.size : Nat) : Int) - x.f1) = ((S.size + 1 + E.size + (j - x.f1).toNat : Nat) : Int) by omega, this, ← hW, bt_ext t _ _ _ (by omega) (by omega)]
        congr 1
        omega
      have hbn := tok_nonblank (by omega) htk
      have e0 := hmv.eq x.f1 (Int.le_refl _) (by omega)
      rw [show x.f1 + (((S.size + 1 + E.size : Nat) : Int) - x.f1) = ((S.size + 1 + E.size : Nat) : Int) by omega] at e0
      have hstop : stopN u (x.f2 + (((S.size + 1 + E.size : Nat) : Int) - x.f1)) := by
        intro _
        rw [show x.f2 + (((S.size + 1 + E.size : Nat) : Int) - x.f1) = ((S.size + 1 + E.size + W.size : Nat) : Int) by omega, uP]
        rcases hph.2 with h | h <;> rw [h] <;> omega
      rw [skip_to u (u.size + 1) (S.size : Int) ((S.size + 1 + E.size : Nat) : Int) (by omega) (by omega) blanks (fun _ => by rw [e0]; exact hbn) (by omega)]
      have hmvd := tok_mv hmv (by omega) htk h12 (Int.le_refl _) (fun _ => hstop)
      rw [show x.f1 + (((S.size + 1 + E.size : Nat) : Int) - x.f1) = ((S.size + 1 + E.size : Nat) : Int) by omega] at hmvd
      rw [hmvd]
      simp only [if_pos, if_neg h12]
      obtain ⟨ys, hy, hk2⟩ := blanks_words (u := u) hm xs (i + 1) k' x.f2 f (S ++ (sp1 ++ (E ++ W))) hL (by rw [hu, hP]; exact ByteArray.append_assoc.symm) k (by simp at hk; omega)
      rw [show x.f2 + (((S.size + 1 + E.size : Nat) : Int) - x.f1) = ((S ++ (sp1 ++ (E ++ W))).size : Int) by simp only [ByteArray.size_append]; omega, hy]
      exact ⟨_, rfl, by simp only [List.map_cons, hk2]⟩
theorem pcs_size {t : ByteArray} {more : List Int} (hm : ∀ x ∈ more, (Lit.int .u8 x).wf = true) : ∀ (xs : List S24) (i k0 : Nat) (a f : Int), lexL t k0 a = some (xs, f, 0) →
    xs.length + 1 ≤ (pcs t more i xs).size ∧ ((pcs t more i xs).size : Int) ≤ 2 * (xs.length : Int) + ((t.size : Int) - a) + 1
  | [], i, k0, a, f, h => (lexL_nil h).elim
  | x :: xs, i, k0, a, f, h => by
    obtain ⟨hN, hcase⟩ := suf_step h
    have hp := next_place hN
    have hex := exS_is hm i
    have hT : (t.extract x.f1.toNat x.f2.toNat).size = min x.f2.toNat t.size - x.f1.toNat := by rw [ByteArray.size_extract]
    have hs1 : sp1.size = 1 := by decide
    unfold pcs
    simp only [ByteArray.size_append, hT, hs1, List.length_cons]
    rcases hcase with ⟨h12, rfl⟩ | ⟨h12, k', hL⟩
    · have : (pcs t more (i + 1) []).size = 1 := by show nl1.size = 1; decide
      simp only [List.length_nil]
      omega
    · have := pcs_size hm xs (i + 1) k' x.f2 f hL
      omega
end Go.Proofs.Ytjdgjifacdnkgaa.X
end
section
namespace Go.Proofs.Ytjdgjifacdnkgaa.Pure
open Go.RowKit Go.Proofs.Ytjdgjifacdnkgaa.X Go.Proofs.YtjdgjifacdnkgaaW.PrintWords Go.Proofs.YtjdgjifacdnkgaaW.PrintLast
set_option linter.unusedVariables false
set_option linter.unusedSimpArgs false
theorem lives06_f : sealringlaw06_lives.f = some true := by kernel_rfl
theorem lives06 : Ev (fun _ => sealringlaw06_lives.f) true := by rw [lives06_f]; exact Ev.now _
theorem rd_key (L : List S24) (i : Nat) (h : i < L.length) : rd_T24 L (i : Int) = L[i] := by
  unfold rd_T24
  rw [show ((i : Int)).toNat = i from rfl, List.getD_eq_getElem?_getD, List.getElem?_eq_getElem h]
  rfl
theorem l2_go (ys L : List S24) (hk : ys.map key = L.map key) (hlen : ys.length ≤ 1000) : ∀ (n i : Nat), i + n = ys.length → Ev (fun k => sealringlaw06_LexBlanks.l2 k L ys (ys.length : Int) (i : Int)) true
  | 0, i, h => by
    refine Ev.step (fun k => by rw [sealringlaw06_LexBlanks.l2]) (evNeg (by omega) ?_)
    exact Ev.bind lives06 (Ev.now _)
  | n + 1, i, h => by
    have hl : L.length = ys.length := by have := congrArg List.length hk; simpa using this.symm
    have hi : i < ys.length := by omega
    have hi2 : i < L.length := by omega
    have e : key ys[i] = key L[i] := by
      have h1 : (ys.map key)[i]? = (L.map key)[i]? := by rw [hk]
      rw [List.getElem?_map, List.getElem?_map, List.getElem?_eq_getElem hi, List.getElem?_eq_getElem hi2] at h1
      simpa using h1
    simp only [key, Prod.mk.injEq] at e
    obtain ⟨e0, e3, e4⟩ := e
    refine Ev.step (fun k => by rw [sealringlaw06_LexBlanks.l2]) (evPos (by omega) (evPos (by omega) (evPos (by omega) (evPos (by omega) ?_))))
    rw [rd_key ys i hi, rd_key L i hi2]
    refine evPos e0 (evPos e3 (evPos (by rw [e4]) ?_))
    rw [w64s i (by omega)]
    exact l2_go ys L hk hlen n (i + 1) (by omega)
theorem l1_go {t : ByteArray} {more : List Int} {L L2 : List S24} {S A : ByteArray} {i1 m i f0 f1 f2 f3 : Int} {f4 : ByteArray} {r : Bool} (ht : t.size ≤ 300) (hf : f1 ≤ (t.size : Int)) : ∀ (n : Nat) (a : Int), 0 ≤ a → f1 - a = n → (∀ j, a ≤ j → j < f1 → blankI (bt t j) = true) →
    Ev (fun k => sealringlaw06_LexBlanks.l1 k t more L A S i1 f1 L2 m i f0 f1 f2 f3 f4) r → Ev (fun k => sealringlaw06_LexBlanks.l1 k t more L A S i1 a L2 m i f0 f1 f2 f3 f4) r
  | 0, a, h0, hn, hb, h => by rw [show a = f1 by omega]; exact h
  | n + 1, a, h0, hn, hb, h => by
    have ih := l1_go (r := r) ht hf n (a + 1) (by omega) (by omega) (fun j h1 h2 => hb j (by omega) h2) h
    have hbl := hb a (Int.le_refl _) (by omega)
    refine Ev.step (fun k => by rw [sealringlaw06_LexBlanks.l1]) (evPos (by omega) (evPos h0 (evPos (by omega) ?_)))
    rw [w64 (x := a + 1) (by omega) (by omega)]
    unfold blankI at hbl
    by_cases c1 : bt t a = 9
    · exact evPos c1 ih
    refine evNeg c1 ?_
    by_cases c2 : bt t a = 10
    · exact evPos c2 ih
    refine evNeg c2 ?_
    by_cases c3 : bt t a = 13
    · exact evPos c3 ih
    refine evNeg c3 ?_
    by_cases c4 : bt t a = 32
    · exact evPos c4 ih
    · simp [c1, c2, c3, c4] at hbl
theorem l0_go {t u : ByteArray} {more : List Int} {L ys : List S24} (ht : t.size ≤ 300) (hm : ∀ x ∈ more, (Lit.int .u8 x).wf = true) (hml : more.length ≤ maxLen) (hL : L.length ≤ 100) (hu : u.size ≤ 1000) (hT : lex_Tokens.f u = some (ys, 0, 0)) (hk : ys.map key = L.map key) :
    ∀ (xs pre : List S24) (a : Int) (S : ByteArray), L = pre ++ xs → ((xs = [] ∧ a = (t.size : Int)) ∨ ∃ k0, lexL t k0 a = some (xs, 0, 0)) → u = S ++ pcs t more pre.length xs → 0 ≤ a → a ≤ (t.size : Int) →
    Ev (fun k => sealringlaw06_LexBlanks.l0 k t more L all4 S a L (L.length : Int) (pre.length : Int)) true
  | [], pre, a, S, hp, hs, hS, h0, h1 => by
    have hlen : ys.length = L.length := by have := congrArg List.length hk; simpa using this
    have hpl : pre.length = L.length := by rw [hp]; simp
    have ha : a = (t.size : Int) := by
      rcases hs with hs | ⟨k0, hs⟩
      · exact hs.2
      · exact (lexL_nil hs).elim
    have hSz : S.size + 1 = u.size := by rw [hS, ByteArray.size_append]; rfl
    refine Ev.step (fun k => by rw [sealringlaw06_LexBlanks.l0]) (evNeg (by omega) (evPos (by omega) ?_))
    have e : S ++ (⟨#[10]⟩ : ByteArray) = u := hS.symm
    rw [e, hT]
    refine Ev.bind (Ev.now _) (evPos rfl (evPos (by show (ys.length : Int) = _; omega) ?_))
    refine Ev.step (fun k => by rw [sealringlaw06_LexBlanks.j3]) (evNeg (by simp [ha]) ?_)
    have := l2_go ys L hk (by omega) ys.length 0 (by omega)
    exact this
  | x :: xs, pre, a, S, hp, hs, hS, h0, h1 => by
    obtain ⟨k0, hx⟩ : ∃ k0, lexL t k0 a = some (x :: xs, 0, 0) := by
      rcases hs with hs | hs
      · cases hs.1
      · exact hs
    obtain ⟨hN, hcase⟩ := suf_step hx
    have hpl := next_place hN
    have hplen : pre.length < L.length := by rw [hp]; simp
    have hget : rd_T24 L (pre.length : Int) = x := by
      rw [rd_key L pre.length hplen]
      simp [hp]
    have hf2 : x.f1 ≤ x.f2 ∧ x.f2 ≤ (t.size : Int) ∧ ((xs = [] ∧ x.f2 = (t.size : Int)) ∨ ∃ k0, lexL t k0 x.f2 = some (xs, 0, 0)) := by
      rcases hcase with ⟨h12, hxs⟩ | ⟨h12, k', hL'⟩
      · have hf : x.f1 = (t.size : Int) := by omega
        have hN2 := hN
        rw [next_tok (by omega) (by omega), ← hpl.2.2.1, hf, tok_end] at hN2
        simp only [Prod.mk.injEq] at hN2
        exact ⟨by omega, by omega, .inl ⟨hxs, by omega⟩⟩
      · exact ⟨by omega, by omega, .inr ⟨k', hL'⟩⟩
    have hex := exS_is hm pre.length
    have hTz : (t.extract x.f1.toNat x.f2.toNat).size = x.f2.toNat - x.f1.toNat := by rw [size_ext _ _ _ (by omega)]
    have hSz : S.size + (1 + ((exS more pre.length).size + (x.f2.toNat - x.f1.toNat))) ≤ u.size := by
      rw [hS]; unfold pcs; simp only [ByteArray.size_append, hTz]; have : sp1.size = 1 := by decide
      omega
    have ih := l0_go ht hm hml hL hu hT hk xs (pre ++ [x]) x.f2 (S ++ (sp1 ++ (exS more pre.length ++ t.extract x.f1.toNat x.f2.toNat))) (by rw [hp]; simp) hf2.2.2 (by rw [hS, List.length_append, List.length_singleton]; exact ByteArray.append_assoc.symm) (by omega) hf2.2.1
    rw [List.length_append, List.length_singleton] at ih
    refine Ev.step (fun k => by rw [sealringlaw06_LexBlanks.l0]) (evPos (by omega) (evPos (by omega) (evPos (by omega) ?_)))
    rw [hget]
    refine l1_go ht (by omega) (x.f1 - a).toNat a h0 (by omega) (fun j g1 g2 => skip_blank t (t.size + 1) a j g1 (by omega)) ?_
    have hsp : (S ++ (⟨#[32]⟩ : ByteArray)).size = S.size + 1 := by rw [ByteArray.size_append]; rfl
    refine Ev.step (fun k => by rw [sealringlaw06_LexBlanks.l1]) (evNeg (by omega) (evPos (by omega) ?_))
    by_cases c : (pre.length : Int) < (more.length : Int)
    · have h4 := mod4 _ (rd_bounds hm pre.length).1 (rd_bounds hm pre.length).2
      have hE : exS more pre.length = all4.extract (Int.tmod (rd more (pre.length : Int)) 4).toNat ((Int.tmod (rd more (pre.length : Int)) 4 + 1) % 256).toNat := by unfold exS; rw [if_pos c]
      rw [hE] at ih hSz hex
      refine evPos c (evPos (by omega) (evPos h4.1 (evPos (by omega) (evPos (by show _ ≤ ((4 : Nat) : Int); omega) (evPos ?_ (evPos (by omega) (evPos hf2.1 (evPos hf2.2.1 (evPos ?_ ?_)))))))))
      · rw [hsp]; have := hex.1; omega
      · rw [ByteArray.size_append, hsp, hTz]; have := hex.1; omega
      · rw [w64s pre.length (by omega)]
        have e : ((S ++ (⟨#[32]⟩ : ByteArray)) ++ all4.extract (Int.tmod (rd more (pre.length : Int)) 4).toNat ((Int.tmod (rd more (pre.length : Int)) 4 + 1) % 256).toNat) ++ t.extract x.f1.toNat x.f2.toNat = S ++ (sp1 ++ (all4.extract (Int.tmod (rd more (pre.length : Int)) 4).toNat ((Int.tmod (rd more (pre.length : Int)) 4 + 1) % 256).toNat ++ t.extract x.f1.toNat x.f2.toNat)) := by
          rw [ByteArray.append_assoc, ByteArray.append_assoc]; rfl
        rw [e]
        exact ih
    · have hE : exS more pre.length = ByteArray.empty := by unfold exS; rw [if_neg c]; rfl
      rw [hE] at ih hSz hex
      refine evNeg c (evPos (by omega) (evPos hf2.1 (evPos hf2.2.1 (evPos ?_ ?_))))
      · rw [hsp, hTz]; omega
      · rw [w64s pre.length (by omega)]
        have e : (S ++ (⟨#[32]⟩ : ByteArray)) ++ t.extract x.f1.toNat x.f2.toNat = S ++ (sp1 ++ (ByteArray.empty ++ t.extract x.f1.toNat x.f2.toNat)) := by
          rw [ByteArray.empty_append, ByteArray.append_assoc]; rfl
        rw [e]
        exact ih
theorem LexBlanks : sealringlaw06_LexBlanks.Pure := by
  intro a0 l1 h1 h2 h3 hm
  refine Ev.rounds ?_
  unfold sealringlaw06_LexBlanks.f
  by_cases hc : (a0.size : Int) > 300
  · exact evPos hc (Ev.bind lives06 (Ev.now _))
  refine evNeg hc ?_
  obtain ⟨⟨xs, f, en⟩, hx⟩ := Option.isSome_iff_exists.1 (lexL_some a0 (a0.size + 2) 0 (by omega) (by omega))
  have hj : ∀ b L, b = true → Ev (fun k => sealringlaw06_LexBlanks.j0 k a0 l1 L b) true := fun b L hb =>
    Ev.step (fun k => by rw [sealringlaw06_LexBlanks.j0]) (evPos hb (Ev.bind lives06 (Ev.now _)))
  have hT : lex_Tokens.f a0 = some (if en = 0 then (xs, 0, 0) else ([], f, en)) := by
    unfold lex_Tokens.f
    rw [if_pos (by omega), hx]
    rfl
  rw [hT]
  refine Ev.bind (Ev.now _) ?_
  by_cases c1 : en = 0
  · subst c1
    rw [if_pos rfl]
    refine evPos rfl ?_
    by_cases c2 : (xs.length : Int) > 100
    · exact evPos c2 (hj _ _ rfl)
    refine evNeg c2 ?_
    by_cases c3 : ((xs.length : Int) == 0) = true
    · exact hj _ _ c3
    have hf : f = 0 := by
      have : ∀ (k : Nat) (a : Int) (xs : List S24) (f : Int), lexL a0 k a = some (xs, f, 0) → f = 0 := by
        intro k
        induction k with
        | zero => intro a xs f h; simp [lexL] at h
        | succ k ih =>
          intro a xs f h
          unfold lexL at h
          cases hN : nextP a0 a with
          | mk kd y =>
          obtain ⟨f', b, nn, s, e⟩ := y
          rw [hN] at h
          simp only at h
          by_cases d1 : e = 0
          · rw [if_pos d1] at h
            by_cases d2 : kd = 12
            · rw [if_pos d2] at h
              simp only [Option.some.injEq, Prod.mk.injEq] at h
              exact h.2.1.symm
            · rw [if_neg d2] at h
              obtain ⟨⟨ys, f2, en'⟩, H2, e2⟩ := Option.map_eq_some_iff.1 h
              simp only [Prod.mk.injEq] at e2
              obtain ⟨rfl, rfl, rfl⟩ := e2
              exact ih b ys f2 H2
          · rw [if_neg d1] at h
            simp only [Option.some.injEq, Prod.mk.injEq] at h
            omega
      exact this _ _ _ _ hx
    subst hf
    refine Ev.step (fun k => by rw [sealringlaw06_LexBlanks.j0]) (evNeg c3 ?_)
    have hps := pcs_size hm xs 0 _ _ _ hx
    obtain ⟨ys, hy, hk⟩ := blanks_words (u := pcs a0 l1 0 xs) hm xs 0 _ 0 0 ByteArray.empty hx ByteArray.empty_append.symm ((pcs a0 l1 0 xs).size + 2) (by omega)
    have hTu : lex_Tokens.f (pcs a0 l1 0 xs) = some (ys, 0, 0) := by
      unfold lex_Tokens.f
      rw [if_pos (by omega)]
      have hy2 : lexL (pcs a0 l1 0 xs) ((pcs a0 l1 0 xs).size + 2) 0 = some (ys, 0, 0) := hy
      rw [hy2]
      rfl
    have := l0_go (t := a0) (u := pcs a0 l1 0 xs) (by omega) hm h2 (by omega) (by omega) hTu hk xs [] 0 ByteArray.empty rfl (.inr ⟨_, hx⟩) ByteArray.empty_append.symm (by omega) (by omega)
    exact this
  · rw [if_neg c1]
    exact evNeg c1 (hj _ _ rfl)
end Go.Proofs.Ytjdgjifacdnkgaa.Pure
end
section
namespace Go.Proofs.YtjdgjifacdnkgaaW.PrintWords
open Go.ChangeShapes Go.WideShapes
theorem sized_ints {H : Type} {enc : TypeId × Value → H} {P : Program} {W : World} {base : Nat} {spare : Nat → Bool} {held : Bool} {t e : TypeId} {k : IntKind} {a : Option Addr} {len cap : Nat} {d : DataW H} {ps : List MemPlace} {ts : List TypeId} {ds : List (DataW H)} {j : Nat}
    (hsz : (DataW.weightsEach P ts ds).all (· ≤ reachBytes) = true) (ht : ts[j]? = some t) (hd : ds[j]? = some d) (hu : P.underlying t = some (.slice e)) (he : P.underlying e = some (.int k)) (hc : P.cellsOf e = 1) {B : Nat} (hB : P.bytesOf e = B)
    (h : DataW.Trod enc P W base spare held t (.slice a len cap) d ps) : len * B ≤ 140737488351232 := by
  obtain ⟨fuel, hf⟩ := h
  rcases open_ints hu he hc hf with ⟨hcs, _⟩ | ⟨x, l, c, zs, hcs, _, hl, _, hz, hx, _, _⟩
  · simp [Value.cells] at hcs
    obtain ⟨rfl, rfl, rfl⟩ := hcs
    simp
  · simp [Value.cells] at hcs
    obtain ⟨rfl, rfl, rfl⟩ := hcs
    obtain ⟨hx, _⟩ := Prod.mk.inj hx
    subst hx
    have z := sized_slice hsz ht hd hu
    rw [hB] at z
    have hl2 : len ≤ zs.length := by
      rw [hz]
      split
      · exact hl
      · exact Nat.le_refl _
    have h1 : (lits (H := H) k (zs.take len)).length + (lits (H := H) k (zs.drop len)).length = zs.length := by
      simp [lits]
      omega
    rw [h1] at z
    exact Nat.le_trans (Nat.mul_le_mul_right _ hl2) z
end Go.Proofs.YtjdgjifacdnkgaaW.PrintWords
end
section
-- printed by wip/tools/printx.py over the translation; Lean checks it
namespace Go.Proofs.Ytjdgjifacdnkgaa.lexBlanks
open Go.ChangeShapes Go.WideShapes Go.ChangeAt Go.RowKit
open Go.ChangeMaps (open_string shut_string)
set_option linter.unusedVariables false
theorem own : ownKnob Try.prog.godebug = none := by kernel_rfl
theorem laidOut : laidOutB Try.prog = true := by kernel_rfl
def IsRow (k : IntKind) (w : World) (a : Option Addr) (len cap : Nat) (zs : List Int) : Prop :=
  (a = none ∧ len = 0 ∧ cap = 0 ∧ zs = []) ∨
  ∃ x, a = some x ∧ len ≤ cap ∧ cap ≤ maxLen ∧ zs.length = cap ∧ (∀ i, i < zs.length → w.cell? (x.add i) = some (.int k (zs.getD i 0))) ∧ ∀ n ∈ zs, (Lit.int k n).wf = true
set_option maxRecDepth 100000 in
theorem lifted (os : Os) (started : os.Started) (H : Type) (enc : TypeId × Value → H) :
    ReturnsInHanded {} Try.checked os 5 .any (Rows.lexBlanksSpec.pre6 enc Try.prog Try.f5 Rows.lexBlanksRow.domain false) (Rows.lexBlanksSpec.post enc Try.prog Try.f5 false true false false) := by
  refine returnsInHanded_of_change_sized (C := Try.checked) own started (by kernel_rfl) Try.func5
    (ChangeSpec.witness6 (enc := enc) (C := Try.checked) false ⟨#[], #[.string ByteArray.empty, .slice none 0 0], []⟩ 8 (by kernel_rfl) (by kernel_rfl) (by kernel_rfl) (by kernel_rfl)) ?_
  intro W base args ds gs before hval0 hW hcnd hsz0 _
  have hsz : (DataW.weightsEach Try.prog (Try.f5.params.toList ++ Rows.lexBlanksSpec.plain.varTypes Try.prog) (ds ++ gs)).all (· ≤ reachBytes) = true := hsz0
  have hval : ∀ (j : Nat) t v, Try.f5.params[j]? = some t → args[j]? = some v → Value.okWide Try.prog W .any base t v := hval0
  have hW' := hW
  obtain ⟨p, q, hA0, hV, rfl, hfz, hnd⟩ := hW
  have hA : DataW.TrodAll enc Try.prog W 0 (fun _ => true) true Try.f5.params.toList args.toList ds p := hA0
  rw [Try.params5] at hA hval hsz
  obtain ⟨v0, vs0, d0, ds0, p0, q0, hargs, rfl, rfl, h0, r0⟩ := trodAll_cons hA
  obtain ⟨v1, vs1, d1, ds1, p1, q1, rfl, rfl, rfl, h1, r1⟩ := trodAll_cons r0
  obtain ⟨rfl, rfl, rfl⟩ := trodAll_nil r1
  obtain rfl : args = #[v0, v1] := by cases args; simp_all
  obtain ⟨rfl, rfl⟩ := trodVars_none hV
  obtain ⟨a0, rfl, rfl, rfl, y0⟩ := open_string Try.underlying9 (hval 0 9 v0 rfl rfl) h0
  have w0 : a0.size ≤ 140737488351232 := by
    have z := sized_string hsz (j := 0) (t := 9) rfl rfl
    rw [Array.length_toList] at z
    exact z
  obtain ⟨a1, len1, cap1, rfl⟩ := okWide_slice Try.underlying40 (hval 1 40 v1 rfl rfl)
  have k1 := h1
  have lt1 : ∀ x ∈ p1, x.block < W.heap.size := by obtain ⟨m, hm⟩ := k1; exact DataW.trod_lt m _ _ _ hm
  obtain ⟨z1, w1⟩ : ∃ zs, IsRow .u8 W a1 len1 cap1 zs := by
    obtain ⟨fuel, hf⟩ := h1
    rcases open_ints Try.underlying40 Try.underlying5 (by kernel_rfl) hf with ⟨hcs, _⟩ | ⟨x, l, c, zs, hcs, _, hl, hm, hz, _, hcell, hwz⟩
    · simp [Value.cells] at hcs
      obtain ⟨rfl, rfl, rfl⟩ := hcs
      exact ⟨[], .inl ⟨rfl, rfl, rfl, rfl⟩⟩
    · simp [Value.cells] at hcs
      obtain ⟨rfl, rfl, rfl⟩ := hcs
      exact ⟨zs, .inr ⟨_, rfl, hl, hm, by simpa using hz, hcell, hwz⟩⟩
  have y1 : len1 * 1 ≤ 140737488351232 := Go.Proofs.YtjdgjifacdnkgaaW.PrintWords.sized_ints hsz (j := 1) (t := 40) rfl rfl Try.underlying40 Try.underlying5 (by kernel_rfl) (by kernel_rfl) h1
  clear hA0 hval0 hsz0 hsz
  refine (X.sealringlaw06_LexBlanks.walk Pure.LexBlanks a0 a1 len1 cap1 z1 W w0 w1 y1).mono fun e W' ⟨he, bel⟩ => ?_
  subst he
  exact ⟨_, rfl, _, _, _, [], _, [], hW', trodAll_mk1 (shut_bool Try.underlying4 _), (trodAll_cons_mk (shut_string Try.underlying9 y0) (trodAll_cons_mk (Below.trod laidOut (by kernel_rfl) (of_decide_eq_true (by kernel_rfl)) k1 bel lt1) trodAll_mk0)), rfl, bel.frame _, fun h => by cases h⟩
theorem over : Rows.lexBlanksRow.holds Try.pinned (OpenSpec.ofChange Rows.lexBlanksSpec) :=
  OpenClaim.holds_of_wide 5 Try.f5 rfl rfl rfl rfl rfl rfl rfl ⟨rfl, rfl, rfl, rfl, rfl⟩ rfl rfl rfl rfl rfl (by kernel_rfl) Try.func5 (by kernel_rfl)
    (of_decide_eq_true (by kernel_rfl)) (by unfold Func.isWrapper; first | (rw [if_pos (by decide +kernel)]; kernel_rfl) | (rw [if_neg (by decide +kernel)]; exact ⟨rfl, rfl⟩))
    (fun os started H enc _ => lifted os started H enc)
theorem proved : Rows.LexBlanksSaid := over
#print axioms proved
end Go.Proofs.Ytjdgjifacdnkgaa.lexBlanks
namespace Go.Proofs.Ytjdgjifacdnkgaa
/-- The row, under a short name, for the claim. -/
theorem lexBlanks_holds : Rows.LexBlanksSaid := lexBlanks.proved
end Go.Proofs.Ytjdgjifacdnkgaa
end
