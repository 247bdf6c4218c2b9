-- printed by wip/tools/printx.py over the translation; Lean checks it
import Derived.Test.YtpedhffkmceldaaX0
import Derived.Test.YtpedhffkmceldaaX2
import Derived.Test.YtpedhffkmceldaaX3
import Derived.Test.YtpedhffkmceldaaX4
import Derived.Test.YtpedhffkmceldaaX5
import Derived.Test.YtpedhffkmceldaaHBound
namespace Go.Proofs.Ytpedhffkmceldaa.X
open Go.RowKit Go.Proofs.YtpedhffkmceldaaW.PrintWords Go.Proofs.YtpedhffkmceldaaW.PrintLast Go.Proofs.YtpedhffkmceldaaW.PrintMore
attribute [local go_sem] max2_int min2_int max_two min_two max_three min_three max_four min_four   -- for this text's walks alone
set_option linter.unusedVariables false
set_option linter.unusedSimpArgs false

/-! ### sealringlaw12_BoundTells: function 3 -/
def sealringlaw12_BoundTells.f (k : Nat) (a0 : Int) : Option (Bool) := (bound_Log.f k a0).bind fun t108 => ((sealringref12_Log.f k a0).bind fun t109 => (if t108 = t109 then ((bound_Steps.f k a0).bind fun t110 => ((sealringref12_Steps.f k a0).bind fun t111 => (if t110 = t111 then ((sealringlaw12_lives.f k).bind fun t112 => (some t112)) else (some false)))) else (some false)))
theorem sealringlaw12_BoundTells.mono : ∀ a0 k, LeO (sealringlaw12_BoundTells.f k a0) (sealringlaw12_BoundTells.f (k + 1) a0) := by
  intro a0 k
  unfold sealringlaw12_BoundTells.f
  repeat' first
      | (with_reducible exact bound_Log.mono _ _)
      | (with_reducible exact bound_Steps.mono _ _)
      | (with_reducible exact sealringlaw12_lives.mono _)
      | (with_reducible exact sealringref12_Log.mono _ _)
      | (with_reducible exact sealringref12_Steps.mono _ _)
      | (with_reducible exact LeO.refl _)
      | (with_reducible exact LeO.none _)
      | (with_reducible refine LeO.ite ?_ ?_)
      | (with_reducible refine LeO.bind ?_ (fun _ => ?_))
      | exact bound_Log.mono _ _
      | exact bound_Steps.mono _ _
      | exact sealringlaw12_lives.mono _
      | exact sealringref12_Log.mono _ _
      | exact sealringref12_Steps.mono _ _
      | exact LeO.none _
      | refine LeO.ite ?_ ?_
      | refine LeO.bind ?_ (fun _ => ?_)
set_option maxHeartbeats 8000000 in
set_option maxRecDepth 100000 in
theorem sealringlaw12_BoundTells.calls (k : Nat) (a0 : Int) (r : Bool) (w : World) (h : sealringlaw12_BoundTells.f k a0 = some r) :
    Calls Try.prog 3 #[.int .i64 a0] w fun e w' => e = .returned (.bool r) ∧ Drawn0 w w' := by
  have H : ((bound_Log.f k a0).bind fun t108 => ((sealringref12_Log.f k a0).bind fun t109 => (if t108 = t109 then ((bound_Steps.f k a0).bind fun t110 => ((sealringref12_Steps.f k a0).bind fun t111 => (if t110 = t111 then ((sealringlaw12_lives.f k).bind fun t112 => (some t112)) else (some false)))) else (some false)))) = some r := h
  clear h
  replace H := Option.bind_eq_some_iff.mp H
  obtain ⟨t108, A20, H⟩ := H
  replace H : ((sealringref12_Log.f k a0).bind fun t109 => (if t108 = t109 then ((bound_Steps.f k a0).bind fun t110 => ((sealringref12_Steps.f k a0).bind fun t111 => (if t110 = t111 then ((sealringlaw12_lives.f k).bind fun t112 => (some t112)) else (some false)))) else (some false))) = some r := H
  have A2 := Aside0.mk A20
  clear A20
  replace H := Option.bind_eq_some_iff.mp H
  obtain ⟨t109, A30, H⟩ := H
  replace H : (if t108 = t109 then ((bound_Steps.f k a0).bind fun t110 => ((sealringref12_Steps.f k a0).bind fun t111 => (if t110 = t111 then ((sealringlaw12_lives.f k).bind fun t112 => (some t112)) else (some false)))) else (some false)) = some r := H
  have A3 := Aside0.mk A30
  clear A30
  by_cases c4 : t108 = t109
  · rw [if_pos c4] at H
    have c4b0 : (t108 == t109) = true := beq_iff_eq.mpr c4
    have c4b1 : (t108 != t109) = false := bne_eq_false_iff_eq.mpr c4
    clear c4
    replace H := Option.bind_eq_some_iff.mp H
    obtain ⟨t110, A50, H⟩ := H
    replace H : ((sealringref12_Steps.f k a0).bind fun t111 => (if t110 = t111 then ((sealringlaw12_lives.f k).bind fun t112 => (some t112)) else (some false))) = some r := H
    have A5 := Aside0.mk A50
    clear A50
    replace H := Option.bind_eq_some_iff.mp H
    obtain ⟨t111, A60, H⟩ := H
    replace H : (if t110 = t111 then ((sealringlaw12_lives.f k).bind fun t112 => (some t112)) else (some false)) = some r := H
    have A6 := Aside0.mk A60
    clear A60
    by_cases c7 : t110 = t111
    · rw [if_pos c7] at H
      have c7b0 : (t110 == t111) = true := beq_iff_eq.mpr c7
      have c7b1 : (t110 != t111) = false := bne_eq_false_iff_eq.mpr c7
      clear c7
      replace H := Option.bind_eq_some_iff.mp H
      obtain ⟨t112, A80, H⟩ := H
      replace H : (some t112) = some r := H
      have A8 := Aside0.mk A80
      clear A80
      obtain rfl := Option.some.inj H
      go_enter Try.func3, Try.ntmps3
      go_wp2_with (first | ((with_reducible refine gate_callee (f := 7) rfl ?_); refine goesL_ (some 4) rfl rfl Try.func7 (by kernel_rfl) rfl #[.int .i64 a0] rfl (by (try simp only [List.map_toArray, List.map_cons, List.map_nil]); first | done | rfl | (simp only [List.length_drop, List.length_take]; rfl)) ?_; (with_reducible refine (bound_Log.calls k a0 t108 _ A2.out).mono ?_); rintro e w' ⟨rfl, ⟨nd, rfl⟩⟩; refine ⟨_, rfl, ?_⟩) | ((with_reducible refine gate_callee (f := 8) rfl ?_); refine goesL_ (some 6) rfl rfl Try.func8 (by kernel_rfl) rfl #[.int .i64 a0] rfl (by (try simp only [List.map_toArray, List.map_cons, List.map_nil]); first | done | rfl | (simp only [List.length_drop, List.length_take]; rfl)) ?_; (with_reducible refine (sealringref12_Log.calls k a0 t109 _ A3.out).mono ?_); rintro e w' ⟨rfl, ⟨nd, rfl⟩⟩; refine ⟨_, rfl, ?_⟩) | (go_at_call 9; (with_reducible refine (bound_Steps.calls k a0 t110 _ A5.out).mono ?_); rintro e w' ⟨rfl, ⟨nd, rfl⟩⟩) | (go_at_call 10; (with_reducible refine (sealringref12_Steps.calls k a0 t111 _ A6.out).mono ?_); rintro e w' ⟨rfl, ⟨nd, rfl⟩⟩) | (go_at_call 11; (with_reducible refine (sealringlaw12_lives.calls k  t112 _ A8.out).mono ?_); rintro e w' ⟨rfl, ⟨nd, rfl⟩⟩))
      go_ret
      exact ⟨by first | rfl | (simp; done) | (simp [*]; done), by repeat (first | exact Drawn0.refl _ | apply Drawn0.step)⟩
    · rw [if_neg c7] at H
      have c7b0 : (t110 == t111) = false := beq_eq_false_iff_ne.mpr c7
      have c7b1 : (t110 != t111) = true := bne_iff_ne.mpr c7
      obtain rfl := Option.some.inj H
      go_enter Try.func3, Try.ntmps3
      go_wp2_with (first | ((with_reducible refine gate_callee (f := 7) rfl ?_); refine goesL_ (some 4) rfl rfl Try.func7 (by kernel_rfl) rfl #[.int .i64 a0] rfl (by (try simp only [List.map_toArray, List.map_cons, List.map_nil]); first | done | rfl | (simp only [List.length_drop, List.length_take]; rfl)) ?_; (with_reducible refine (bound_Log.calls k a0 t108 _ A2.out).mono ?_); rintro e w' ⟨rfl, ⟨nd, rfl⟩⟩; refine ⟨_, rfl, ?_⟩) | ((with_reducible refine gate_callee (f := 8) rfl ?_); refine goesL_ (some 6) rfl rfl Try.func8 (by kernel_rfl) rfl #[.int .i64 a0] rfl (by (try simp only [List.map_toArray, List.map_cons, List.map_nil]); first | done | rfl | (simp only [List.length_drop, List.length_take]; rfl)) ?_; (with_reducible refine (sealringref12_Log.calls k a0 t109 _ A3.out).mono ?_); rintro e w' ⟨rfl, ⟨nd, rfl⟩⟩; refine ⟨_, rfl, ?_⟩) | (go_at_call 9; (with_reducible refine (bound_Steps.calls k a0 t110 _ A5.out).mono ?_); rintro e w' ⟨rfl, ⟨nd, rfl⟩⟩) | (go_at_call 10; (with_reducible refine (sealringref12_Steps.calls k a0 t111 _ A6.out).mono ?_); rintro e w' ⟨rfl, ⟨nd, rfl⟩⟩))
      go_ret
      exact ⟨by first | rfl | (simp; done) | (simp [*]; done), by repeat (first | exact Drawn0.refl _ | apply Drawn0.step)⟩
  · rw [if_neg c4] at H
    have c4b0 : (t108 == t109) = false := beq_eq_false_iff_ne.mpr c4
    have c4b1 : (t108 != t109) = true := bne_iff_ne.mpr c4
    obtain rfl := Option.some.inj H
    go_enter Try.func3, Try.ntmps3
    go_wp2_with (first | ((with_reducible refine gate_callee (f := 7) rfl ?_); refine goesL_ (some 4) rfl rfl Try.func7 (by kernel_rfl) rfl #[.int .i64 a0] rfl (by (try simp only [List.map_toArray, List.map_cons, List.map_nil]); first | done | rfl | (simp only [List.length_drop, List.length_take]; rfl)) ?_; (with_reducible refine (bound_Log.calls k a0 t108 _ A2.out).mono ?_); rintro e w' ⟨rfl, ⟨nd, rfl⟩⟩; refine ⟨_, rfl, ?_⟩) | ((with_reducible refine gate_callee (f := 8) rfl ?_); refine goesL_ (some 6) rfl rfl Try.func8 (by kernel_rfl) rfl #[.int .i64 a0] rfl (by (try simp only [List.map_toArray, List.map_cons, List.map_nil]); first | done | rfl | (simp only [List.length_drop, List.length_take]; rfl)) ?_; (with_reducible refine (sealringref12_Log.calls k a0 t109 _ A3.out).mono ?_); rintro e w' ⟨rfl, ⟨nd, rfl⟩⟩; refine ⟨_, rfl, ?_⟩))
    go_ret
    exact ⟨by first | rfl | (simp; done) | (simp [*]; done), by repeat (first | exact Drawn0.refl _ | apply Drawn0.step)⟩

/-- THE ONE PURE STATEMENT of sealringlaw12_BoundTells: yours. -/
def sealringlaw12_BoundTells.Pure : Prop := ∀ (a0 : Int), (Lit.int .i64 a0).wf = true → ∃ k, sealringlaw12_BoundTells.f k a0 = some true
theorem sealringlaw12_BoundTells.walk (P : sealringlaw12_BoundTells.Pure) (a0 : Int) (w : World) (w0 : (Lit.int .i64 a0).wf = true) :
    Calls Try.prog 3 #[.int .i64 a0] w fun e w' => e = .returned (.bool true) ∧ Below w.heap.size w w' := by
  obtain ⟨k, h⟩ := P a0 w0
  refine (sealringlaw12_BoundTells.calls k a0 true w h).mono ?_
  rintro e w' ⟨rfl, hd⟩
  exact ⟨rfl, hd.below⟩

end Go.Proofs.Ytpedhffkmceldaa.X
