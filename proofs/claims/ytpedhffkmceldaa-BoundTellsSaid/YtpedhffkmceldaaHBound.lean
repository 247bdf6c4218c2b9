import Derived.Test.YtpedhffkmceldaaX0
namespace Go.Proofs.Ytpedhffkmceldaa.X
open Go.RowKit Go.Proofs.YtpedhffkmceldaaW.PrintWords Go.Proofs.YtpedhffkmceldaaW.PrintLast Go.Proofs.YtpedhffkmceldaaW.PrintMore
set_option linter.unusedVariables false
set_option linter.unusedSimpArgs false
def bound_Log.l0 : Nat → Int → Int → Option (Int)
  | 0, _, _ => none
  | k + 1, x0, x5 => if x5 < 64 then (if x0 ≤ 1 then (some x5) else bound_Log.l0 k (wrap64 (Int.tdiv x0 2)) (wrap64 (x5 + 1))) else (some 0)
def bound_Log.f (k : Nat) (a0 : Int) : Option (Int) := bound_Log.l0 k a0 0
theorem bound_Log.mono_l : ∀ k, (∀ y0 y1, LeO (bound_Log.l0 k y0 y1) (bound_Log.l0 (k + 1) y0 y1))
  | 0 => fun _ _ r h => by simp [bound_Log.l0] at h
  | k + 1 => by
    have ih0 := bound_Log.mono_l k
    intro y0 y1
    unfold bound_Log.l0
    repeat' first
      | exact ih0 _ _
      | exact LeO.refl _
      | refine LeO.ite ?_ ?_
theorem bound_Log.mono : ∀ a0 k, LeO (bound_Log.f k a0) (bound_Log.f (k + 1) a0) := fun a0 k => bound_Log.mono_l k a0 0
set_option maxHeartbeats 800000 in
set_option maxRecDepth 100000 in
theorem bound_Log.calls (k : Nat) (a0 : Int) (r : Int) (w : World) (h : bound_Log.f k a0 = some r) :
    Calls Try.prog 7 #[.int .i64 a0] w fun e w' => e = .returned (.int .i64 r) ∧ Drawn0 w w' := by
  have H : (bound_Log.l0 k a0 0) = some r := h
  clear h
  have H' := Aside0.mk H
  clear H
  go_enter Try.func7, Try.ntmps7
  go_wp2
  go_loopg [0, 4, 5] k (fun kq v0 v4 v5 w' => ∃ (x0 x5 : Int), v0 = .int .i64 x0 ∧ v5 = .int .i64 x5 ∧ Aside0 (bound_Log.l0 kq x0 x5 = some r) ∧ Aside0 (kq ≤ k) ∧ Drawn0 w w')
  case atStart => exact ⟨a0, 0, rfl, rfl, H', ⟨Nat.le_refl _⟩, Drawn0.refl _⟩
  case round =>
    clear H'
    obtain ⟨x0, x5, rfl, rfl, HA, HK1, ⟨m1, rfl⟩⟩ := hrel
    cases gk with
    | zero => exact absurd HA.out (by simp [bound_Log.l0])
    | succ k1 =>
      have H := HA.out
      clear HA
      simp only [bound_Log.l0] at H
      by_cases c1 : x5 < 64
      · rw [if_pos c1] at H
        by_cases c2 : x0 ≤ 1
        · rw [if_pos c2] at H
          obtain rfl := Option.some.inj H
          clear H
          go_wp2
          go_ret
          exact ⟨rfl, by repeat (first | exact Drawn0.refl _ | apply Drawn0.step)⟩
        · rw [if_neg c2] at H
          have H' := Aside0.mk H
          clear H
          go_wp2
          go_roundg k1
          case measure => have := HK1.out; omega
          case rel => exact ⟨_, _, rfl, rfl, H', ⟨by have := HK1.out; omega⟩, by repeat (first | exact Drawn0.refl _ | apply Drawn0.step)⟩
      · rw [if_neg c1] at H
        obtain rfl := Option.some.inj H
        clear H
        go_wp2
        go_ret
        exact ⟨rfl, by repeat (first | exact Drawn0.refl _ | apply Drawn0.step)⟩
end Go.Proofs.Ytpedhffkmceldaa.X
