import Derived.Test.YtijfbnkohnlmaaaSBytes
import Derived.Test.YtijfbnkohnlmaaaHAll
import Derived.Test.YtijfbnkohnlmaaaX10
import Derived.Test.YtijfbnkohnlmaaaX6
import Derived.Test.YtijfbnkohnlmaaaX7
import Derived.Test.YtijfbnkohnlmaaaX9
namespace Go.Proofs.Ytijfbnkohnlmaaa.X
open Go.RowKit Go.Proofs.YtijfbnkohnlmaaaW.PrintWords Go.Proofs.YtijfbnkohnlmaaaW.PrintLast
set_option linter.unusedVariables false
set_option linter.unusedSimpArgs false
/-! ### What stands at a place -/
def vC (b : Int) : Bool := decide (128 ≤ b ∧ b < 192)
def dec (s : ByteArray) (a : Nat) : Option (Int × Nat) :=
  if ¬ a < s.size then none
  else if bt s a < 128 then some (bt s a, 1)
  else if 194 ≤ bt s a ∧ bt s a < 224 then (if a + 2 ≤ s.size ∧ vC (bt s (a + 1 : Nat)) = true then some (bt s a % 32 * 64 + bt s (a + 1 : Nat) % 64, 2) else none)
  else if 224 ≤ bt s a ∧ bt s a < 240 then (if a + 3 ≤ s.size ∧ vC (bt s (a + 1 : Nat)) = true ∧ vC (bt s (a + 2 : Nat)) = true ∧ utf_sz ((bt s a % 16 * 64 + bt s (a + 1 : Nat) % 64) * 64 + bt s (a + 2 : Nat) % 64) = 3 then some ((bt s a % 16 * 64 + bt s (a + 1 : Nat) % 64) * 64 + bt s (a + 2 : Nat) % 64, 3) else none)
  else if 240 ≤ bt s a ∧ bt s a < 245 then (if a + 4 ≤ s.size ∧ vC (bt s (a + 1 : Nat)) = true ∧ vC (bt s (a + 2 : Nat)) = true ∧ vC (bt s (a + 3 : Nat)) = true ∧ utf_sz (((bt s a % 8 * 64 + bt s (a + 1 : Nat) % 64) * 64 + bt s (a + 2 : Nat) % 64) * 64 + bt s (a + 3 : Nat) % 64) = 4 then some (((bt s a % 8 * 64 + bt s (a + 1 : Nat) % 64) * 64 + bt s (a + 2 : Nat) % 64) * 64 + bt s (a + 3 : Nat) % 64, 4) else none)
  else none
def decT : Option (Int × Nat) → Int × Int × Bool
  | none => (0, 0, false)
  | some (v, n) => (v, (n : Int), true)
theorem and192 : ∀ b : Fin 256, (Go.bits .and .u8 (b.val : Int) 192 = 128) ↔ (128 ≤ (b.val : Int) ∧ (b.val : Int) < 192) := by decide +kernel
theorem isC_iff {b : Int} (h0 : 0 ≤ b) (h1 : b ≤ 255) : (Go.bits .and .u8 b 192 = 128) ↔ vC b = true := by
  have := and192 ⟨b.toNat, by omega⟩
  simp only at this
  rw [show ((b.toNat : Nat) : Int) = b by omega] at this
  rw [this, vC, decide_eq_true_iff]
theorem join6 {r b : Int} (h0 : 0 ≤ r) (h1 : r < 1048576) (hb0 : 0 ≤ b) (hb1 : b ≤ 255) : Go.bits .or .i32 (wrap32 (r * 64)) (Go.bits .and .u8 b 63) = r * 64 + b % 64 := by
  rw [u8_and63 b hb0 (by omega), show wrap32 (r * 64) = r * 64 by unfold wrap32; omega]
  exact bits_join .i32 31 (by decide) wraps_i32 6 (r * 64) (b % 64) (by omega) (by omega) (by omega) (by omega) (by omega) (by omega)
section
variable (s : ByteArray) (a n : Int)
theorem next_ok {i r : Int} {x : Int × Int × Bool} (hi : i < n - 1) (hc : vC (bt s (a + 1 + i)) = true) (h0 : 0 ≤ r) (h1 : r < 1048576) (h : Ev (fun k => utf_Next.l0 k s a n (i + 1) (r * 64 + bt s (a + 1 + i) % 64)) x) : Ev (fun k => utf_Next.l0 k s a n i r) x := by
  have hb := bt_range s (a + 1 + i)
  refine Ev.step (fun k => ?_) h
  rw [utf_Next.l0, if_pos hi, if_pos ((isC_iff hb.1 hb.2).2 hc), join6 h0 h1 hb.1 hb.2]
theorem next_bad {i r : Int} (hi : i < n - 1) (hc : ¬ vC (bt s (a + 1 + i)) = true) : Ev (fun k => utf_Next.l0 k s a n i r) (0, 0, false) := by
  have hb := bt_range s (a + 1 + i)
  refine Ev.step (f := fun _ => some (0, 0, false)) (fun k => ?_) (Ev.now _)
  rw [utf_Next.l0, if_pos hi, if_neg (fun h => hc ((isC_iff hb.1 hb.2).1 h))]
theorem next_end {i r : Int} (hi : ¬ i < n - 1) : Ev (fun k => utf_Next.l0 k s a n i r) (if utf_sz r = n then (r, n, true) else (0, 0, false)) := by
  refine Ev.step (f := fun k => (utf_size.f k r).bind fun t => if t = n then some (r, n, true) else some (0, 0, false)) (fun k => ?_) ?_
  · rw [utf_Next.l0, if_neg hi]
  · refine Ev.bind (f := fun _ t => if t = n then some (r, n, true) else some (0, 0, false)) (Ev.step (f := fun _ => some (utf_sz r)) (fun k => utf_size_f k r) (Ev.now _)) ?_
    by_cases c : utf_sz r = n
    · simp only [if_pos c]; exact Ev.now _
    · simp only [if_neg c]; exact Ev.now _
end
theorem head_ev (c : Int) (h0 : 0 ≤ c) (h1 : c ≤ 255) : Ev (fun k => utf_head.f k c) (if c < 128 then (1, c) else if 194 ≤ c ∧ c < 224 then (2, c % 32) else if 224 ≤ c ∧ c < 240 then (3, c % 16) else if 240 ≤ c ∧ c < 245 then (4, c % 8) else (0, 0)) := by
  have w : ∀ x : Int, 0 ≤ x → x ≤ 255 → wrap32 x = x := fun x g0 g1 => by unfold wrap32; omega
  have j1 : ∀ b, Ev (fun k => utf_head.j1 k c b) (if b = true then (3, c % 16) else if c ≥ 240 then (if c < 245 then (4, c % 8) else (0, 0)) else (0, 0)) := fun b => by
    refine Ev.step (f := fun _ => some _) (fun k => ?_) (Ev.now _)
    rw [utf_head.j1, u8_and15 c h0 (by omega), u8_and7 c h0 (by omega), w (c % 16) (by omega) (by omega), w (c % 8) (by omega) (by omega)]
    (repeat' split) <;> rfl
  have j0 : ∀ b, Ev (fun k => utf_head.j0 k c b) (if b = true then (2, c % 32) else if c ≥ 224 then (if c < 240 then (3, c % 16) else if c ≥ 240 then (if c < 245 then (4, c % 8) else (0, 0)) else (0, 0)) else if c ≥ 240 then (if c < 245 then (4, c % 8) else (0, 0)) else (0, 0)) := fun b => by
    cases b
    · by_cases c2 : c ≥ 224
      · refine Ev.step (f := fun k => utf_head.j1 k c (decide (c < 240))) (fun k => ?_) ?_
        · rw [utf_head.j0, if_neg (by simp), if_pos c2]
        · have := j1 (decide (c < 240))
          simp only [decide_eq_true_iff] at this
          simpa only [Bool.false_eq_true, if_false, if_pos c2] using this
      · refine Ev.step (f := fun k => utf_head.j1 k c false) (fun k => ?_) ?_
        · rw [utf_head.j0, if_neg (by simp), if_neg c2]
        · have := j1 false
          simpa only [Bool.false_eq_true, if_false, if_neg c2] using this
    · refine Ev.step (f := fun _ => some (2, c % 32)) (fun k => ?_) (Ev.now _)
      rw [utf_head.j0, if_pos rfl, u8_and31 c h0 (by omega), w (c % 32) (by omega) (by omega)]
  unfold utf_head.f
  by_cases c1 : c < 128
  · rw [if_pos c1]
    refine evPos c1 ?_
    rw [w c h0 h1]
    exact Ev.now _
  · rw [if_neg c1]
    refine evNeg c1 ?_
    by_cases c2 : c ≥ 194
    · refine evPos c2 ?_
      have := j0 (decide (c < 224))
      simp only [decide_eq_true_iff] at this
      by_cases c3 : c < 224
      · rw [if_pos ⟨c2, c3⟩]
        rwa [if_pos c3] at this
      · rw [if_neg (fun h => c3 h.2)]
        rw [if_neg c3] at this
        by_cases c4 : c < 240
        · rw [if_pos ⟨by omega, c4⟩]
          rwa [if_pos (by omega), if_pos c4] at this
        · rw [if_neg (fun h => c4 h.2)]
          rw [if_pos (by omega), if_neg c4, if_pos (by omega)] at this
          by_cases c5 : c < 245
          · rw [if_pos ⟨by omega, c5⟩]
            rwa [if_pos c5] at this
          · rw [if_neg (fun h => c5 h.2)]
            rwa [if_neg c5] at this
    · refine evNeg c2 ?_
      have := j0 false
      rw [if_neg (by simp), if_neg (by omega), if_neg (by omega)] at this
      rw [if_neg (fun h => c2 h.1), if_neg (fun h => by omega), if_neg (fun h => by omega)]
      exact this
theorem Next_ev (s : ByteArray) (hs : s.size ≤ 140737488351232) (a : Nat) : Ev (fun k => utf_Next.f k s (a : Int)) (decT (dec s a)) := by
  unfold utf_Next.f
  refine evPos hs (evNeg (by omega) ?_)
  by_cases c1 : a < s.size
  · refine evNeg (by omega) ?_
    have hb := bt_range s (a : Int)
    refine Ev.bind (f := fun k (hd : Int × Int) => if hd.1 = 0 then some (0, 0, false) else if hd.1 > (s.size : Int) - (a : Int) then some (0, 0, false) else utf_Next.l0 k s (a : Int) hd.1 0 hd.2) (head_ev (bt s a) hb.1 hb.2) ?_
    unfold dec
    rw [if_neg (show ¬ ¬ a < s.size by omega)]
    by_cases d1 : bt s a < 128
    · simp only [if_pos d1]
      refine evNeg (by decide) (evNeg (by omega) ?_)
      have := next_end s (a : Int) 1 (i := 0) (r := bt s a) (by omega)
      rwa [if_pos (by unfold utf_sz; rw [if_neg (by omega), if_pos d1])] at this
    · simp only [if_neg d1]
      have e1 : (a : Int) + 1 + 0 = ((a + 1 : Nat) : Int) := by omega
      have e2 : (a : Int) + 1 + (0 + 1) = ((a + 2 : Nat) : Int) := by omega
      have e3 : (a : Int) + 1 + (0 + 1 + 1) = ((a + 3 : Nat) : Int) := by omega
      have r1 := bt_range s ((a + 1 : Nat) : Int)
      have r2 := bt_range s ((a + 2 : Nat) : Int)
      have r3 := bt_range s ((a + 3 : Nat) : Int)
      by_cases d2 : 194 ≤ bt s a ∧ bt s a < 224
      · simp only [if_pos d2]
        refine evNeg (by decide) ?_
        by_cases f1 : a + 2 ≤ s.size
        · refine evNeg (by omega) ?_
          by_cases f2 : vC (bt s (a + 1 : Nat)) = true
          · rw [if_pos ⟨f1, f2⟩]
            refine next_ok s a 2 (by omega) (by rw [e1]; exact f2) (by omega) (by omega) ?_
            rw [e1]
            have := next_end s (a : Int) 2 (i := 0 + 1) (r := bt s a % 32 * 64 + bt s (a + 1 : Nat) % 64) (by omega)
            rwa [if_pos (by unfold utf_sz; rw [if_neg (by omega), if_neg (by omega), if_pos (by omega)])] at this
          · rw [if_neg (fun h => f2 h.2)]
            exact next_bad s a 2 (by omega) (by rw [e1]; exact f2)
        · rw [if_neg (fun h => f1 h.1)]
          exact evPos (by omega) (Ev.now _)
      · simp only [if_neg d2]
        by_cases d3 : 224 ≤ bt s a ∧ bt s a < 240
        · simp only [if_pos d3]
          refine evNeg (by decide) ?_
          by_cases f1 : a + 3 ≤ s.size
          · refine evNeg (by omega) ?_
            by_cases f2 : vC (bt s (a + 1 : Nat)) = true
            · refine next_ok s a 3 (by omega) (by rw [e1]; exact f2) (by omega) (by omega) ?_
              rw [e1]
              by_cases f3 : vC (bt s (a + 2 : Nat)) = true
              · refine next_ok s a 3 (by omega) (by rw [e2]; exact f3) (by omega) (by omega) ?_
                rw [e2]
                have := next_end s (a : Int) 3 (i := 0 + 1 + 1) (r := (bt s a % 16 * 64 + bt s (a + 1 : Nat) % 64) * 64 + bt s (a + 2 : Nat) % 64) (by omega)
                by_cases f4 : utf_sz ((bt s a % 16 * 64 + bt s (a + 1 : Nat) % 64) * 64 + bt s (a + 2 : Nat) % 64) = 3
                · rw [if_pos ⟨f1, f2, f3, f4⟩]
                  rwa [if_pos f4] at this
                · rw [if_neg (fun h => f4 h.2.2.2)]
                  rwa [if_neg f4] at this
              · rw [if_neg (fun h => f3 h.2.2.1)]
                exact next_bad s a 3 (by omega) (by rw [e2]; exact f3)
            · rw [if_neg (fun h => f2 h.2.1)]
              exact next_bad s a 3 (by omega) (by rw [e1]; exact f2)
          · rw [if_neg (fun h => f1 h.1)]
            exact evPos (by omega) (Ev.now _)
        · simp only [if_neg d3]
          by_cases d4 : 240 ≤ bt s a ∧ bt s a < 245
          · simp only [if_pos d4]
            refine evNeg (by decide) ?_
            by_cases f1 : a + 4 ≤ s.size
            · refine evNeg (by omega) ?_
              by_cases f2 : vC (bt s (a + 1 : Nat)) = true
              · refine next_ok s a 4 (by omega) (by rw [e1]; exact f2) (by omega) (by omega) ?_
                rw [e1]
                by_cases f3 : vC (bt s (a + 2 : Nat)) = true
                · refine next_ok s a 4 (by omega) (by rw [e2]; exact f3) (by omega) (by omega) ?_
                  rw [e2]
                  by_cases f4 : vC (bt s (a + 3 : Nat)) = true
                  · refine next_ok s a 4 (by omega) (by rw [e3]; exact f4) (by omega) (by omega) ?_
                    rw [e3]
                    have := next_end s (a : Int) 4 (i := 0 + 1 + 1 + 1) (r := ((bt s a % 8 * 64 + bt s (a + 1 : Nat) % 64) * 64 + bt s (a + 2 : Nat) % 64) * 64 + bt s (a + 3 : Nat) % 64) (by omega)
                    by_cases f5 : utf_sz (((bt s a % 8 * 64 + bt s (a + 1 : Nat) % 64) * 64 + bt s (a + 2 : Nat) % 64) * 64 + bt s (a + 3 : Nat) % 64) = 4
                    · rw [if_pos ⟨f1, f2, f3, f4, f5⟩]
                      rwa [if_pos f5] at this
                    · rw [if_neg (fun h => f5 h.2.2.2.2)]
                      rwa [if_neg f5] at this
                  · rw [if_neg (fun h => f4 h.2.2.2.1)]
                    exact next_bad s a 4 (by omega) (by rw [e3]; exact f4)
                · rw [if_neg (fun h => f3 h.2.2.1)]
                  exact next_bad s a 4 (by omega) (by rw [e2]; exact f3)
              · rw [if_neg (fun h => f2 h.2.1)]
                exact next_bad s a 4 (by omega) (by rw [e1]; exact f2)
            · rw [if_neg (fun h => f1 h.1)]
              exact evPos (by omega) (Ev.now _)
          · simp only [if_neg d4]
            exact evPos (by trivial) (Ev.now _)
  · unfold dec
    rw [if_pos c1]
    exact evPos (by omega) (Ev.now _)
end Go.Proofs.Ytijfbnkohnlmaaa.X
