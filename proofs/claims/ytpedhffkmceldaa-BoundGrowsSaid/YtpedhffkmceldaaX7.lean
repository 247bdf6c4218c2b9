-- printed by wip/tools/printx.py over the translation; Lean checks it
import Derived.Test.YtpedhffkmceldaaX0
import Derived.Test.YtpedhffkmceldaaX3
import Derived.Test.YtpedhffkmceldaaX5
namespace Go.Proofs.Ytpedhffkmceldaa.X
open Go.RowKit Go.Proofs.YtpedhffkmceldaaW.PrintWords Go.Proofs.YtpedhffkmceldaaW.PrintLast Go.Proofs.YtpedhffkmceldaaW.PrintMore
attribute [local go_sem] max2_int min2_int max_two min_two max_three min_three max_four min_four   -- for this text's walks alone
set_option linter.unusedVariables false
set_option linter.unusedSimpArgs false

/-! ### sealringlaw12_BoundGrows: function 4 -/
def sealringlaw12_BoundGrows.f (k : Nat) (a0 : Int) (a1 : Int) : Option (Bool) := (bound_Steps.f k (wrap64 (Int.tmod a0 1073741824))).bind fun t113 => ((bound_Steps.f k (wrap64 ((wrap64 (Int.tmod a0 1073741824)) + (wrap64 (Int.tmod a1 1073741824))))).bind fun t114 => (if t113 ≤ t114 then ((bound_Steps.f k (wrap64 ((wrap64 (2 * (wrap64 (Int.tmod a0 1073741824)))) + 1))).bind fun t115 => ((bound_Steps.f k (wrap64 (Int.tmod a0 1073741824))).bind fun t116 => (if t115 = (wrap64 ((wrap64 (2 * t116)) + (wrap64 (8 * (wrap64 ((wrap64 (Int.tmod a0 1073741824)) + 1)))))) then ((bound_Steps.f k (wrap64 (Int.tmod a0 1073741824))).bind fun t117 => (if t117 ≥ (wrap64 (4 * (wrap64 ((wrap64 (Int.tmod a0 1073741824)) + 1)))) then ((sealringlaw12_lives.f k).bind fun t118 => (some t118)) else (some false))) else (some false)))) else (some false)))
theorem sealringlaw12_BoundGrows.mono : ∀ a0 a1 k, LeO (sealringlaw12_BoundGrows.f k a0 a1) (sealringlaw12_BoundGrows.f (k + 1) a0 a1) := by
  intro a0 a1 k
  unfold sealringlaw12_BoundGrows.f
  repeat' first
      | (with_reducible exact bound_Steps.mono _ _)
      | (with_reducible exact sealringlaw12_lives.mono _)
      | (with_reducible exact LeO.refl _)
      | (with_reducible exact LeO.none _)
      | (with_reducible refine LeO.ite ?_ ?_)
      | (with_reducible refine LeO.bind ?_ (fun _ => ?_))
      | exact bound_Steps.mono _ _
      | exact sealringlaw12_lives.mono _
      | exact LeO.none _
      | refine LeO.ite ?_ ?_
      | refine LeO.bind ?_ (fun _ => ?_)
set_option maxHeartbeats 8000000 in
set_option maxRecDepth 100000 in
theorem sealringlaw12_BoundGrows.calls (k : Nat) (a0 : Int) (a1 : Int) (r : Bool) (w : World) (h : sealringlaw12_BoundGrows.f k a0 a1 = some r) :
    Calls Try.prog 4 #[.int .u32 a0, .int .u32 a1] w fun e w' => e = .returned (.bool r) ∧ Drawn0 w w' := by
  have H : ((bound_Steps.f k (wrap64 (Int.tmod a0 1073741824))).bind fun t113 => ((bound_Steps.f k (wrap64 ((wrap64 (Int.tmod a0 1073741824)) + (wrap64 (Int.tmod a1 1073741824))))).bind fun t114 => (if t113 ≤ t114 then ((bound_Steps.f k (wrap64 ((wrap64 (2 * (wrap64 (Int.tmod a0 1073741824)))) + 1))).bind fun t115 => ((bound_Steps.f k (wrap64 (Int.tmod a0 1073741824))).bind fun t116 => (if t115 = (wrap64 ((wrap64 (2 * t116)) + (wrap64 (8 * (wrap64 ((wrap64 (Int.tmod a0 1073741824)) + 1)))))) then ((bound_Steps.f k (wrap64 (Int.tmod a0 1073741824))).bind fun t117 => (if t117 ≥ (wrap64 (4 * (wrap64 ((wrap64 (Int.tmod a0 1073741824)) + 1)))) then ((sealringlaw12_lives.f k).bind fun t118 => (some t118)) else (some false))) else (some false)))) else (some false)))) = some r := h
  clear h
  replace H := Option.bind_eq_some_iff.mp H
  obtain ⟨t113, A30, H⟩ := H
  replace H : ((bound_Steps.f k (wrap64 ((wrap64 (Int.tmod a0 1073741824)) + (wrap64 (Int.tmod a1 1073741824))))).bind fun t114 => (if t113 ≤ t114 then ((bound_Steps.f k (wrap64 ((wrap64 (2 * (wrap64 (Int.tmod a0 1073741824)))) + 1))).bind fun t115 => ((bound_Steps.f k (wrap64 (Int.tmod a0 1073741824))).bind fun t116 => (if t115 = (wrap64 ((wrap64 (2 * t116)) + (wrap64 (8 * (wrap64 ((wrap64 (Int.tmod a0 1073741824)) + 1)))))) then ((bound_Steps.f k (wrap64 (Int.tmod a0 1073741824))).bind fun t117 => (if t117 ≥ (wrap64 (4 * (wrap64 ((wrap64 (Int.tmod a0 1073741824)) + 1)))) then ((sealringlaw12_lives.f k).bind fun t118 => (some t118)) else (some false))) else (some false)))) else (some false))) = some r := H
  have A3 := Aside0.mk A30
  clear A30
  replace H := Option.bind_eq_some_iff.mp H
  obtain ⟨t114, A40, H⟩ := H
  replace H : (if t113 ≤ t114 then ((bound_Steps.f k (wrap64 ((wrap64 (2 * (wrap64 (Int.tmod a0 1073741824)))) + 1))).bind fun t115 => ((bound_Steps.f k (wrap64 (Int.tmod a0 1073741824))).bind fun t116 => (if t115 = (wrap64 ((wrap64 (2 * t116)) + (wrap64 (8 * (wrap64 ((wrap64 (Int.tmod a0 1073741824)) + 1)))))) then ((bound_Steps.f k (wrap64 (Int.tmod a0 1073741824))).bind fun t117 => (if t117 ≥ (wrap64 (4 * (wrap64 ((wrap64 (Int.tmod a0 1073741824)) + 1)))) then ((sealringlaw12_lives.f k).bind fun t118 => (some t118)) else (some false))) else (some false)))) else (some false)) = some r := H
  have A4 := Aside0.mk A40
  clear A40
  by_cases c5 : t113 ≤ t114
  · rw [if_pos c5] at H
    have c5b0 : decide (t113 ≤ t114) = true := decide_eq_true c5
    clear c5
    replace H := Option.bind_eq_some_iff.mp H
    obtain ⟨t115, A60, H⟩ := H
    replace H : ((bound_Steps.f k (wrap64 (Int.tmod a0 1073741824))).bind fun t116 => (if t115 = (wrap64 ((wrap64 (2 * t116)) + (wrap64 (8 * (wrap64 ((wrap64 (Int.tmod a0 1073741824)) + 1)))))) then ((bound_Steps.f k (wrap64 (Int.tmod a0 1073741824))).bind fun t117 => (if t117 ≥ (wrap64 (4 * (wrap64 ((wrap64 (Int.tmod a0 1073741824)) + 1)))) then ((sealringlaw12_lives.f k).bind fun t118 => (some t118)) else (some false))) else (some false))) = some r := H
    have A6 := Aside0.mk A60
    clear A60
    replace H := Option.bind_eq_some_iff.mp H
    obtain ⟨t116, A70, H⟩ := H
    replace H : (if t115 = (wrap64 ((wrap64 (2 * t116)) + (wrap64 (8 * (wrap64 ((wrap64 (Int.tmod a0 1073741824)) + 1)))))) then ((bound_Steps.f k (wrap64 (Int.tmod a0 1073741824))).bind fun t117 => (if t117 ≥ (wrap64 (4 * (wrap64 ((wrap64 (Int.tmod a0 1073741824)) + 1)))) then ((sealringlaw12_lives.f k).bind fun t118 => (some t118)) else (some false))) else (some false)) = some r := H
    have A7 := Aside0.mk A70
    clear A70
    have EA7 : t113 = t116 := Option.some.inj (A3.out.symm.trans A7.out)
    subst EA7
    by_cases c8 : t115 = (wrap64 ((wrap64 (2 * t113)) + (wrap64 (8 * (wrap64 ((wrap64 (Int.tmod a0 1073741824)) + 1))))))
    · rw [if_pos c8] at H
      have c8b0 : (t115 == (wrap64 ((wrap64 (2 * t113)) + (wrap64 (8 * (wrap64 ((wrap64 (Int.tmod a0 1073741824)) + 1))))))) = true := beq_iff_eq.mpr c8
      have c8b1 : (t115 != (wrap64 ((wrap64 (2 * t113)) + (wrap64 (8 * (wrap64 ((wrap64 (Int.tmod a0 1073741824)) + 1))))))) = false := bne_eq_false_iff_eq.mpr c8
      clear c8
      replace H := Option.bind_eq_some_iff.mp H
      obtain ⟨t117, A90, H⟩ := H
      replace H : (if t117 ≥ (wrap64 (4 * (wrap64 ((wrap64 (Int.tmod a0 1073741824)) + 1)))) then ((sealringlaw12_lives.f k).bind fun t118 => (some t118)) else (some false)) = some r := H
      have A9 := Aside0.mk A90
      clear A90
      have EA9 : t113 = t117 := Option.some.inj (A3.out.symm.trans A9.out)
      subst EA9
      by_cases c10 : t113 ≥ (wrap64 (4 * (wrap64 ((wrap64 (Int.tmod a0 1073741824)) + 1))))
      · rw [if_pos c10] at H
        have c10b0 : decide ((wrap64 (4 * (wrap64 ((wrap64 (Int.tmod a0 1073741824)) + 1)))) ≤ t113) = true := decide_eq_true c10
        clear c10
        replace H := Option.bind_eq_some_iff.mp H
        obtain ⟨t118, A110, H⟩ := H
        replace H : (some t118) = some r := H
        have A11 := Aside0.mk A110
        clear A110
        obtain rfl := Option.some.inj H
        go_enter Try.func4, Try.ntmps4
        go_wp2_with (first | ((with_reducible refine gate_callee (f := 9) rfl ?_); refine goesL_ (some 14) rfl rfl Try.func9 (by kernel_rfl) rfl #[.int .i64 (wrap64 (Int.tmod a0 1073741824))] rfl (by (try simp only [List.map_toArray, List.map_cons, List.map_nil]); first | done | rfl | (simp only [List.length_drop, List.length_take]; rfl)) ?_; (with_reducible refine (bound_Steps.calls k (wrap64 (Int.tmod a0 1073741824)) t113 _ A3.out).mono ?_); rintro e w' ⟨rfl, ⟨nd, rfl⟩⟩; refine ⟨_, rfl, ?_⟩) | ((with_reducible refine gate_callee (f := 9) rfl ?_); refine goesL_ (some 18) rfl rfl Try.func9 (by kernel_rfl) rfl #[.int .i64 (wrap64 ((wrap64 (Int.tmod a0 1073741824)) + (wrap64 (Int.tmod a1 1073741824))))] rfl (by (try simp only [List.map_toArray, List.map_cons, List.map_nil]); first | done | rfl | (simp only [List.length_drop, List.length_take]; rfl)) ?_; (with_reducible refine (bound_Steps.calls k (wrap64 ((wrap64 (Int.tmod a0 1073741824)) + (wrap64 (Int.tmod a1 1073741824)))) t114 _ A4.out).mono ?_); rintro e w' ⟨rfl, ⟨nd, rfl⟩⟩; refine ⟨_, rfl, ?_⟩) | (go_at_call 9; (with_reducible refine (bound_Steps.calls k (wrap64 ((wrap64 (2 * (wrap64 (Int.tmod a0 1073741824)))) + 1)) t115 _ A6.out).mono ?_); rintro e w' ⟨rfl, ⟨nd, rfl⟩⟩) | (go_at_call 9; (with_reducible refine (bound_Steps.calls k (wrap64 (Int.tmod a0 1073741824)) t113 _ A7.out).mono ?_); rintro e w' ⟨rfl, ⟨nd, rfl⟩⟩) | (go_at_call 9; (with_reducible refine (bound_Steps.calls k (wrap64 (Int.tmod a0 1073741824)) t113 _ A9.out).mono ?_); rintro e w' ⟨rfl, ⟨nd, rfl⟩⟩) | (go_at_call 11; (with_reducible refine (sealringlaw12_lives.calls k  t118 _ A11.out).mono ?_); rintro e w' ⟨rfl, ⟨nd, rfl⟩⟩))
        go_ret
        exact ⟨by first | rfl | (simp; done) | (simp [*]; done), by repeat (first | exact Drawn0.refl _ | apply Drawn0.step)⟩
      · rw [if_neg c10] at H
        have c10b0 : decide ((wrap64 (4 * (wrap64 ((wrap64 (Int.tmod a0 1073741824)) + 1)))) ≤ t113) = false := decide_eq_false c10
        clear c10
        obtain rfl := Option.some.inj H
        go_enter Try.func4, Try.ntmps4
        go_wp2_with (first | ((with_reducible refine gate_callee (f := 9) rfl ?_); refine goesL_ (some 14) rfl rfl Try.func9 (by kernel_rfl) rfl #[.int .i64 (wrap64 (Int.tmod a0 1073741824))] rfl (by (try simp only [List.map_toArray, List.map_cons, List.map_nil]); first | done | rfl | (simp only [List.length_drop, List.length_take]; rfl)) ?_; (with_reducible refine (bound_Steps.calls k (wrap64 (Int.tmod a0 1073741824)) t113 _ A3.out).mono ?_); rintro e w' ⟨rfl, ⟨nd, rfl⟩⟩; refine ⟨_, rfl, ?_⟩) | ((with_reducible refine gate_callee (f := 9) rfl ?_); refine goesL_ (some 18) rfl rfl Try.func9 (by kernel_rfl) rfl #[.int .i64 (wrap64 ((wrap64 (Int.tmod a0 1073741824)) + (wrap64 (Int.tmod a1 1073741824))))] rfl (by (try simp only [List.map_toArray, List.map_cons, List.map_nil]); first | done | rfl | (simp only [List.length_drop, List.length_take]; rfl)) ?_; (with_reducible refine (bound_Steps.calls k (wrap64 ((wrap64 (Int.tmod a0 1073741824)) + (wrap64 (Int.tmod a1 1073741824)))) t114 _ A4.out).mono ?_); rintro e w' ⟨rfl, ⟨nd, rfl⟩⟩; refine ⟨_, rfl, ?_⟩) | (go_at_call 9; (with_reducible refine (bound_Steps.calls k (wrap64 ((wrap64 (2 * (wrap64 (Int.tmod a0 1073741824)))) + 1)) t115 _ A6.out).mono ?_); rintro e w' ⟨rfl, ⟨nd, rfl⟩⟩) | (go_at_call 9; (with_reducible refine (bound_Steps.calls k (wrap64 (Int.tmod a0 1073741824)) t113 _ A7.out).mono ?_); rintro e w' ⟨rfl, ⟨nd, rfl⟩⟩) | (go_at_call 9; (with_reducible refine (bound_Steps.calls k (wrap64 (Int.tmod a0 1073741824)) t113 _ A9.out).mono ?_); rintro e w' ⟨rfl, ⟨nd, rfl⟩⟩))
        go_ret
        exact ⟨by first | rfl | (simp; done) | (simp [*]; done), by repeat (first | exact Drawn0.refl _ | apply Drawn0.step)⟩
    · rw [if_neg c8] at H
      have c8b0 : (t115 == (wrap64 ((wrap64 (2 * t113)) + (wrap64 (8 * (wrap64 ((wrap64 (Int.tmod a0 1073741824)) + 1))))))) = false := beq_eq_false_iff_ne.mpr c8
      have c8b1 : (t115 != (wrap64 ((wrap64 (2 * t113)) + (wrap64 (8 * (wrap64 ((wrap64 (Int.tmod a0 1073741824)) + 1))))))) = true := bne_iff_ne.mpr c8
      obtain rfl := Option.some.inj H
      go_enter Try.func4, Try.ntmps4
      go_wp2_with (first | ((with_reducible refine gate_callee (f := 9) rfl ?_); refine goesL_ (some 14) rfl rfl Try.func9 (by kernel_rfl) rfl #[.int .i64 (wrap64 (Int.tmod a0 1073741824))] rfl (by (try simp only [List.map_toArray, List.map_cons, List.map_nil]); first | done | rfl | (simp only [List.length_drop, List.length_take]; rfl)) ?_; (with_reducible refine (bound_Steps.calls k (wrap64 (Int.tmod a0 1073741824)) t113 _ A3.out).mono ?_); rintro e w' ⟨rfl, ⟨nd, rfl⟩⟩; refine ⟨_, rfl, ?_⟩) | ((with_reducible refine gate_callee (f := 9) rfl ?_); refine goesL_ (some 18) rfl rfl Try.func9 (by kernel_rfl) rfl #[.int .i64 (wrap64 ((wrap64 (Int.tmod a0 1073741824)) + (wrap64 (Int.tmod a1 1073741824))))] rfl (by (try simp only [List.map_toArray, List.map_cons, List.map_nil]); first | done | rfl | (simp only [List.length_drop, List.length_take]; rfl)) ?_; (with_reducible refine (bound_Steps.calls k (wrap64 ((wrap64 (Int.tmod a0 1073741824)) + (wrap64 (Int.tmod a1 1073741824)))) t114 _ A4.out).mono ?_); rintro e w' ⟨rfl, ⟨nd, rfl⟩⟩; refine ⟨_, rfl, ?_⟩) | (go_at_call 9; (with_reducible refine (bound_Steps.calls k (wrap64 ((wrap64 (2 * (wrap64 (Int.tmod a0 1073741824)))) + 1)) t115 _ A6.out).mono ?_); rintro e w' ⟨rfl, ⟨nd, rfl⟩⟩) | (go_at_call 9; (with_reducible refine (bound_Steps.calls k (wrap64 (Int.tmod a0 1073741824)) t113 _ A7.out).mono ?_); rintro e w' ⟨rfl, ⟨nd, rfl⟩⟩))
      go_ret
      exact ⟨by first | rfl | (simp; done) | (simp [*]; done), by repeat (first | exact Drawn0.refl _ | apply Drawn0.step)⟩
  · rw [if_neg c5] at H
    have c5b0 : decide (t113 ≤ t114) = false := decide_eq_false c5
    clear c5
    obtain rfl := Option.some.inj H
    go_enter Try.func4, Try.ntmps4
    go_wp2_with (first | ((with_reducible refine gate_callee (f := 9) rfl ?_); refine goesL_ (some 14) rfl rfl Try.func9 (by kernel_rfl) rfl #[.int .i64 (wrap64 (Int.tmod a0 1073741824))] rfl (by (try simp only [List.map_toArray, List.map_cons, List.map_nil]); first | done | rfl | (simp only [List.length_drop, List.length_take]; rfl)) ?_; (with_reducible refine (bound_Steps.calls k (wrap64 (Int.tmod a0 1073741824)) t113 _ A3.out).mono ?_); rintro e w' ⟨rfl, ⟨nd, rfl⟩⟩; refine ⟨_, rfl, ?_⟩) | ((with_reducible refine gate_callee (f := 9) rfl ?_); refine goesL_ (some 18) rfl rfl Try.func9 (by kernel_rfl) rfl #[.int .i64 (wrap64 ((wrap64 (Int.tmod a0 1073741824)) + (wrap64 (Int.tmod a1 1073741824))))] rfl (by (try simp only [List.map_toArray, List.map_cons, List.map_nil]); first | done | rfl | (simp only [List.length_drop, List.length_take]; rfl)) ?_; (with_reducible refine (bound_Steps.calls k (wrap64 ((wrap64 (Int.tmod a0 1073741824)) + (wrap64 (Int.tmod a1 1073741824)))) t114 _ A4.out).mono ?_); rintro e w' ⟨rfl, ⟨nd, rfl⟩⟩; refine ⟨_, rfl, ?_⟩))
    go_ret
    exact ⟨by first | rfl | (simp; done) | (simp [*]; done), by repeat (first | exact Drawn0.refl _ | apply Drawn0.step)⟩

/-- THE ONE PURE STATEMENT of sealringlaw12_BoundGrows: yours. -/
def sealringlaw12_BoundGrows.Pure : Prop := ∀ (a0 : Int) (a1 : Int), (Lit.int .u32 a0).wf = true → (Lit.int .u32 a1).wf = true → ∃ k, sealringlaw12_BoundGrows.f k a0 a1 = some true
theorem sealringlaw12_BoundGrows.walk (P : sealringlaw12_BoundGrows.Pure) (a0 : Int) (a1 : Int) (w : World) (w0 : (Lit.int .u32 a0).wf = true) (w1 : (Lit.int .u32 a1).wf = true) :
    Calls Try.prog 4 #[.int .u32 a0, .int .u32 a1] w fun e w' => e = .returned (.bool true) ∧ Below w.heap.size w w' := by
  obtain ⟨k, h⟩ := P a0 a1 w0 w1
  refine (sealringlaw12_BoundGrows.calls k a0 a1 true w h).mono ?_
  rintro e w' ⟨rfl, hd⟩
  exact ⟨rfl, hd.below⟩

end Go.Proofs.Ytpedhffkmceldaa.X
