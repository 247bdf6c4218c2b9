import Derived.Test.YtijfbnkohnlmaaaHLib
import Derived.Lib.ConvBytes
import Derived.Test.YtijfbnkohnlmaaaSBytes
import Derived.Test.YtijfbnkohnlmaaaX1
import Derived.Test.YtijfbnkohnlmaaaX4
namespace Go.Proofs.Ytijfbnkohnlmaaa.X
open Go.RowKit Go.Proofs.YtijfbnkohnlmaaaW.PrintWords Go.Proofs.YtijfbnkohnlmaaaW.PrintLast Go.Proofs.YtijfbnkohnlmaaaW.PrintMore
set_option linter.unusedVariables false
set_option linter.unusedSimpArgs false
def utf_Next.l0 : Nat → ByteArray → Int → Int → Int → Int → Option (Int × Int × Bool)
  | 0, _, _, _, _, _ => none
  | k + 1, s, a, n, i, r => if i < n - 1 then (if Go.bits .and .u8 (bt s (a + 1 + i)) 192 = 128 then utf_Next.l0 k s a n (i + 1) (Go.bits .or .i32 (wrap32 (r * 64)) (Go.bits .and .u8 (bt s (a + 1 + i)) 63)) else some (0, 0, false)) else ((utf_size.f k r).bind fun t => if t = n then some (r, n, true) else some (0, 0, false))
def utf_Next.f (k : Nat) (s : ByteArray) (a : Int) : Option (Int × Int × Bool) :=
  if s.size ≤ 140737488351232 then (if a < 0 then some (0, 0, false) else if a ≥ (s.size : Int) then some (0, 0, false) else (utf_head.f k (bt s a)).bind fun hd => if hd.1 = 0 then some (0, 0, false) else if hd.1 > (s.size : Int) - a then some (0, 0, false) else utf_Next.l0 k s a hd.1 0 hd.2) else none
theorem utf_Next.mono_l : ∀ k s a n i r, LeO (utf_Next.l0 k s a n i r) (utf_Next.l0 (k + 1) s a n i r)
  | 0 => fun _ _ _ _ _ r h => by simp [utf_Next.l0] at h
  | k + 1 => by
    have ih0 := utf_Next.mono_l k
    intro s a n i r
    unfold utf_Next.l0
    repeat' first
      | exact ih0 _ _ _ _ _
      | exact utf_size.mono _ _
      | exact LeO.refl _
      | refine LeO.ite ?_ ?_
      | refine LeO.bind ?_ (fun _ => ?_)
theorem utf_Next.mono : ∀ a0 a1 k, LeO (utf_Next.f k a0 a1) (utf_Next.f (k + 1) a0 a1) := by
  intro a0 a1 k
  unfold utf_Next.f
  repeat' first
      | exact utf_Next.mono_l _ _ _ _ _ _
      | exact utf_head.mono _ _
      | exact LeO.refl _
      | refine LeO.ite ?_ ?_
      | refine LeO.bind ?_ (fun _ => ?_)
theorem utf_head_range {k : Nat} {c n r : Int} (h : utf_head.f k c = some (n, r)) : n = 0 ∨ (1 ≤ n ∧ n ≤ 4) := by
  unfold utf_head.f at h
  cases k with
  | zero =>
    simp only [utf_head.j0] at h
    split at h
    · simp at h; omega
    · split at h <;> simp at h
  | succ k =>
    simp only [utf_head.j0] at h
    cases k with
    | zero =>
      simp only [utf_head.j1] at h
      repeat' split at h
      all_goals simp at h
      all_goals omega
    | succ k =>
      simp only [utf_head.j1] at h
      repeat' split at h
      all_goals simp at h
      all_goals omega
theorem wrap32_and63 (c : Int) : wrap32 (Go.bits .and .u8 c 63) = Go.bits .and .u8 c 63 := by
  unfold Go.bits
  rw [IntKind.wrap_u8]
  unfold wrap32
  omega
theorem bytesWorld_below {w w1 : World} (h : Below w.heap.size w w1) (e : TypeId) (s : ByteArray) : Below w.heap.size w (Lib.bytesWorld w1 e s) := by
  refine h.trans ⟨rfl, rfl, rfl, by rw [Lib.bytesWorld_size]; omega, fun k hk => Lib.bytesWorld_at_old w1 e s k (by have := h.size; omega)⟩
set_option maxHeartbeats 1600000 in
set_option maxRecDepth 100000 in
theorem utf_Next.calls (k : Nat) (a0 : ByteArray) (a1 : Int) (r1 r2 : Int) (r3 : Bool) (w : World) (h : utf_Next.f k a0 a1 = some (r1, r2, r3)) :
    Calls Try.prog 15 #[.string a0, .int .i64 a1] w fun e w' => e = .returned (.tuple #[.int .i32 r1, .int .i64 r2, .bool r3]) ∧ Below w.heap.size w w' := by
  have H := h
  clear h
  unfold utf_Next.f at H
  have hs : a0.size ≤ 140737488351232 := by
    by_cases hs : a0.size ≤ 140737488351232
    · exact hs
    · rw [if_neg hs] at H; cases H
  rw [if_pos hs] at H
  by_cases c1 : a1 < 0
  · rw [if_pos c1] at H
    cases H
    go_enter Try.func15, Try.ntmps15
    go_wp2
    go_ret3
    exact ⟨rfl, Below.refl _ _⟩
  rw [if_neg c1] at H
  by_cases c2 : a1 ≥ (a0.size : Int)
  · rw [if_pos c2] at H
    cases H
    go_enter Try.func15, Try.ntmps15
    go_wp2
    go_ret3
    exact ⟨rfl, Below.refl _ _⟩
  rw [if_neg c2] at H
  obtain ⟨⟨n, r⟩, A1, H⟩ := Option.bind_eq_some_iff.1 H
  have hn := utf_head_range A1
  have A1 := Aside0.mk A1
  simp only at H
  by_cases c3 : n = 0
  · rw [if_pos c3] at H
    cases H
    subst c3
    go_enter Try.func15, Try.ntmps15
    go_wp2_with (go_at_call 29; (try simp only [bt_at]); refine (utf_head.calls k _ _ _ _ A1.out).mono ?_; rintro e w1 ⟨rfl, ⟨m1, rfl⟩⟩)
    go_ret3
    exact ⟨rfl, by repeat (first | exact Below.refl _ _ | apply below_drew1 | apply pw_below_drewN)⟩
  rw [if_neg c3] at H
  by_cases c4 : n > (a0.size : Int) - a1
  · rw [if_pos c4] at H
    cases H
    go_enter Try.func15, Try.ntmps15
    go_wp2_with (go_at_call 29; (try simp only [bt_at]); refine (utf_head.calls k _ _ _ _ A1.out).mono ?_; rintro e w1 ⟨rfl, ⟨m1, rfl⟩⟩)
    go_ret3
    exact ⟨rfl, by repeat (first | exact Below.refl _ _ | apply below_drew1 | apply pw_below_drewN)⟩
  rw [if_neg c4] at H
  have H' := Aside0.mk H
  clear H
  have hn1 : 1 ≤ n := by omega
  have e1 : (n == 0) = false := by simpa using c3
  have e2 : decide ((a0.size : Int) - a1 < n) = false := by simpa using c4
  have e3 : 0 ≤ a1 + 1 := by omega
  have e4 : a1 + n ≤ (a0.size : Int) := by omega
  have e5 : 0 ≤ a1 := by omega
  have e6 : a1 < (a0.size : Int) := by omega
  have hcv := fun (w : World) (s : ByteArray) => Lib.run_convert_string_bytes (P := Try.prog) w 9 54 5 s Try.underlying9 Try.underlying54 Try.underlying5
  go_enter Try.func15, Try.ntmps15
  go_wp2_with (go_at_call 29; (try simp only [bt_at]); refine (utf_head.calls k _ _ _ _ A1.out).mono ?_; rintro e w1 ⟨rfl, ⟨m1, rfl⟩⟩)
  obtain ⟨L, hL⟩ : ∃ L : Nat, n = (L : Int) + 1 := ⟨(n - 1).toNat, by omega⟩
  have hLn : (a1 + n).toNat - (a1 + 1).toNat = L := by omega
  have hsz : (a0.extract (a1 + 1).toNat (a1 + n).toNat).size = L := by rw [ByteArray.size_extract]; omega
  generalize hW : Lib.bytesWorld (w.drewN m1) 5 (a0.extract (a1 + 1).toNat (a1 + n).toNat) = W
  have hc : ∀ j : Nat, j < L → W.cell? ⟨w.heap.size, j, none⟩ = some (.int .u8 (bt a0 (a1 + 1 + (j : Int)))) := fun j hj => by
    rw [← hW]
    have h1 := Lib.bytesWorld_cell (w.drewN m1) 5 (a0.extract (a1 + 1).toNat (a1 + n).toNat) j (by omega)
    have h2 := bt_ext a0 (a1 + 1).toNat (a1 + n).toNat j (by omega) (by omega)
    rw [show (((a1 + 1).toNat + j : Nat) : Int) = a1 + 1 + (j : Int) by omega] at h2
    rw [← h2, bt_nat _ j (by omega)]
    have h3 : (a0.extract (a1 + 1).toNat (a1 + n).toNat).data.toList.getD j 0 = (a0.extract (a1 + 1).toNat (a1 + n).toNat)[j]'(by omega) := by
      rw [List.getD_eq_getElem?_getD, List.getElem?_eq_getElem (by rw [Array.length_toList]; have h9 : (a0.extract (a1 + 1).toNat (a1 + n).toNat).data.size = L := hsz; omega)]
      rfl
    rw [h3] at h1
    exact h1
  have hBW : Below w.heap.size w W := by
    rw [← hW]
    exact bytesWorld_below (pw_below_drewN (Below.refl _ _) _) _ _
  rw [hLn]
  go_loopg [4, 9, 44] k (fun kq v4 v9 v44 w' => ∃ (x4 : Int) (j : Nat), v4 = .int .i32 x4 ∧ v44 = .int .i64 (j : Int) ∧ Aside0 (utf_Next.l0 kq a0 a1 n (j : Int) x4 = some (r1, r2, r3)) ∧ Aside0 (kq ≤ k) ∧ j ≤ L ∧ ∃ m, w' = W.drewN m)
  case atStart => exact ⟨_, 0, rfl, rfl, H', ⟨Nat.le_refl _⟩, Nat.zero_le _, 0, rfl⟩
  case round =>
    clear H'
    obtain ⟨x4, j, rfl, rfl, HA, HK1, hjL, m2, rfl⟩ := hrel
    cases gk with
    | zero => exact absurd HA.out (by simp [utf_Next.l0])
    | succ k1 =>
      have H := HA.out
      clear HA
      simp only [utf_Next.l0] at H
      by_cases d1 : (j : Int) < n - 1
      · rw [if_pos d1] at H
        have hcj := hc j (by omega)
        have dj : (j : Int) < (L : Int) := by omega
        generalize hbt : bt a0 (a1 + 1 + (j : Int)) = c at H hcj
        by_cases d2 : Go.bits .and .u8 c 192 = 128
        · rw [if_pos d2] at H
          have H' := Aside0.mk H
          clear H
          go_wp2
          go_roundg k1
          case measure => have := HK1.out; omega
          case rel => exact ⟨_, j + 1, rfl, rfl, by rw [wrap32_and63] ; exact H', ⟨by have := HK1.out; omega⟩, by omega, m2, rfl⟩
        · rw [if_neg d2] at H
          cases H
          go_wp2
          go_ret3
          exact ⟨rfl, by repeat (first | exact hBW | apply below_drew1 | apply pw_below_drewN)⟩
      · rw [if_neg d1] at H
        have dj : ¬ ((j : Int) < (L : Int)) := by omega
        obtain ⟨t, A2, H⟩ := Option.bind_eq_some_iff.1 H
        have A2 := Aside0.mk A2
        by_cases d3 : t = n
        · rw [if_pos d3] at H
          cases H
          go_wp2_with (go_at_call 27; refine (utf_size.calls _ _ _ _ A2.out).mono ?_; rintro e w1 ⟨rfl, ⟨m3, rfl⟩⟩)
          go_ret3
          exact ⟨by simp_all, by repeat (first | exact hBW | apply below_drew1 | apply pw_below_drewN)⟩
        · rw [if_neg d3] at H
          cases H
          go_wp2_with (go_at_call 27; refine (utf_size.calls _ _ _ _ A2.out).mono ?_; rintro e w1 ⟨rfl, ⟨m3, rfl⟩⟩)
          go_ret3
          exact ⟨by simp_all, by repeat (first | exact hBW | apply below_drew1 | apply pw_below_drewN)⟩
end Go.Proofs.Ytijfbnkohnlmaaa.X
