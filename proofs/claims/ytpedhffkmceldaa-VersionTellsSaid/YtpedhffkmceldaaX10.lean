-- printed by wip/tools/printx.py over the translation; Lean checks it
import Derived.Test.YtpedhffkmceldaaX0
namespace Go.Proofs.Ytpedhffkmceldaa.X
open Go.RowKit Go.Proofs.YtpedhffkmceldaaW.PrintWords Go.Proofs.YtpedhffkmceldaaW.PrintLast Go.Proofs.YtpedhffkmceldaaW.PrintMore
attribute [local go_sem] max2_int min2_int max_two min_two max_three min_three max_four min_four   -- for this text's walks alone
set_option linter.unusedVariables false
set_option linter.unusedSimpArgs false

/-! ### sealringref26_Of: function 14 -/
def sealringref26_Of.f (a0 : Int) : Option (List Bool × Bool) := if a0 < 1 then (some (([] : List Bool), false)) else (if a0 > 11 then (some (([] : List Bool), false)) else (some ((([decide (a0 ≤ 2), decide (a0 ≤ 2), decide (a0 ≥ 4), decide (a0 ≤ 5), decide (a0 ≥ 8), decide (a0 ≥ 9), decide (a0 ≥ 11)] : List Bool)), true)))
set_option maxHeartbeats 8000000 in
set_option maxRecDepth 100000 in
theorem sealringref26_Of.calls (a0 : Int) (r1 : List Bool) (r2 : Bool) (w : World) (h : sealringref26_Of.f a0 = some (r1, r2)) :
    Calls Try.prog 14 #[.int .i64 a0] w fun e w' => ∃ v0_ : Value, e = .returned (.tuple #[v0_, .bool r2]) ∧ Kd.R Kd.bool 4 w' w.heap.size (fun _ => True) v0_ r1 ∧ Below w.heap.size w w' := by
  have HB := Aside0.mk (Below.refl w.heap.size w)
  have H : (if a0 < 1 then (some (([] : List Bool), false)) else (if a0 > 11 then (some (([] : List Bool), false)) else (some ((([decide (a0 ≤ 2), decide (a0 ≤ 2), decide (a0 ≥ 4), decide (a0 ≤ 5), decide (a0 ≥ 8), decide (a0 ≥ 9), decide (a0 ≥ 11)] : List Bool)), true)))) = some (r1, r2) := h
  clear h
  by_cases c2 : a0 < 1
  · rw [if_pos c2] at H
    have c2b0 : decide (a0 < 1) = true := decide_eq_true c2
    clear c2
    simp only [Option.some.injEq, Prod.mk.injEq] at H
    obtain ⟨rfl, rfl⟩ := H
    go_enter Try.func14, Try.ntmps14
    go_wp2
    go_ret2
    exact ⟨_, by first | rfl | (simp [errW_none, errW_some] <;> rfl) | (simp [*, errW_none, errW_some] <;> rfl), by first | exact Kd.R_nil _ _ _ _ _ | exact Kd.N_nil _ _ _ _ _ | exact Kd.V_nil _ _ _ _ _ | exact Kd.Q_nil _ _ _ _ _ | exact Kd.S_nil _ _ _ _ _, by repeat (first | (with_reducible first | exact HB.out | apply below_alloc | apply pw_below_drewN | apply below_drew1) | exact HB.out)⟩
  · rw [if_neg c2] at H
    have c2b0 : decide (a0 < 1) = false := decide_eq_false c2
    clear c2
    by_cases c3 : a0 > 11
    · rw [if_pos c3] at H
      have c3b0 : decide (11 < a0) = true := decide_eq_true c3
      clear c3
      simp only [Option.some.injEq, Prod.mk.injEq] at H
      obtain ⟨rfl, rfl⟩ := H
      go_enter Try.func14, Try.ntmps14
      go_wp2
      go_ret2
      exact ⟨_, by first | rfl | (simp [errW_none, errW_some] <;> rfl) | (simp [*, errW_none, errW_some] <;> rfl), by first | exact Kd.R_nil _ _ _ _ _ | exact Kd.N_nil _ _ _ _ _ | exact Kd.V_nil _ _ _ _ _ | exact Kd.Q_nil _ _ _ _ _ | exact Kd.S_nil _ _ _ _ _, by repeat (first | (with_reducible first | exact HB.out | apply below_alloc | apply pw_below_drewN | apply below_drew1) | exact HB.out)⟩
    · rw [if_neg c3] at H
      have c3b0 : decide (11 < a0) = false := decide_eq_false c3
      clear c3
      obtain ⟨y165, hy165⟩ : ∃ y_ : List Bool, y_ = (([decide (a0 ≤ 2), decide (a0 ≤ 2), decide (a0 ≥ 4), decide (a0 ≤ 5), decide (a0 ≥ 8), decide (a0 ≥ 9), decide (a0 ≥ 11)] : List Bool)) := ⟨_, rfl⟩
      replace H : (some (y165, true)) = some (r1, r2) := by first | (rw [hy165]; with_reducible exact H) | (have H2_ := (Option.bind_some _ _).symm.trans H; rw [hy165]; with_reducible exact H2_) | (have H2_ := (Option.bind_some _ _).symm.trans H; with_reducible exact H2_) | with_reducible exact H | (rw [hy165]; exact H) | exact H
      have Ny165 := Aside0.mk hy165
      clear hy165
      simp only [Option.some.injEq, Prod.mk.injEq] at H
      obtain ⟨rfl, rfl⟩ := H
      go_enter Try.func14, Try.ntmps14
      go_wp2_with (first | ((with_reducible refine gate_dst (N := 24) rfl ?_); refine Kd.R_lit Kd.bool _ 4 ?hg (N := 24) ?hd (xs := ([decide (a0 ≤ 2), decide (a0 ≤ 2), decide (a0 ≥ 4), decide (a0 ≤ 5), decide (a0 ≥ 8), decide (a0 ≥ 9), decide (a0 ≥ 11)] : List Bool)) (inner := [.bool (decide (a0 ≤ 2)), .bool (decide (a0 ≤ 2)), .bool (decide (a0 ≥ 4)), .bool (decide (a0 ≤ 5)), .bool (decide (a0 ≥ 8)), .bool (decide (a0 ≥ 9)), .bool (decide (a0 ≥ 11))]) (ok := fun _ => True) (okp := fun _ => True) ?hr ?hp (fun _ hk => hk) trivial (Below.refl _ _) (Nat.le_refl _) (by simp) ?_; (case hd => rfl); (case hg => rfl); (case hr => first | (go_simp; done) | (go_simp; rfl)); (case hp => exact (Reps.one (show Kd.M Kd.bool _ _ _ (decide (a0 ≤ 2)) [.bool (decide (a0 ≤ 2))] from rfl) (Reps.one (show Kd.M Kd.bool _ _ _ (decide (a0 ≤ 2)) [.bool (decide (a0 ≤ 2))] from rfl) (Reps.one (show Kd.M Kd.bool _ _ _ (decide (a0 ≥ 4)) [.bool (decide (a0 ≥ 4))] from rfl) (Reps.one (show Kd.M Kd.bool _ _ _ (decide (a0 ≤ 5)) [.bool (decide (a0 ≤ 5))] from rfl) (Reps.one (show Kd.M Kd.bool _ _ _ (decide (a0 ≥ 8)) [.bool (decide (a0 ≥ 8))] from rfl) (Reps.one (show Kd.M Kd.bool _ _ _ (decide (a0 ≥ 9)) [.bool (decide (a0 ≥ 9))] from rfl) (Reps.one (show Kd.M Kd.bool _ _ _ (decide (a0 ≥ 11)) [.bool (decide (a0 ≥ 11))] from rfl) (Reps.none _ _))))))))); intro v166 w4 ho5 hb hg_ hnew_; clear hg_ hnew_; (first | rw [← Ny165.out] at ho5 | (simp only [Int.reduceToNat] at ho5; rw [← Ny165.out] at ho5)); have n0_ := Aside0.mk (Kd.R_lower ho5 (below_size (by repeat (first | (with_reducible first | exact HB.out | apply below_alloc | apply pw_below_drewN | apply below_drew1) | exact HB.out)))); have n1_ := Aside0.mk (below_step (by repeat (first | (with_reducible first | exact HB.out | apply below_alloc | apply pw_below_drewN | apply below_drew1) | exact HB.out)) hb); clear HB; have HO167 := n0_; have HB := n1_; clear n0_ n1_; clear hb ho5))
      go_ret2
      exact ⟨_, by first | rfl | (simp [errW_none, errW_some] <;> rfl) | (simp [*, errW_none, errW_some] <;> rfl), by (with_reducible repeat (first | apply Kd.R_alloc | apply Kd.R_drewN | apply Kd.R_drew)); exact HO167.out, by repeat (first | (with_reducible first | exact HB.out | apply below_alloc | apply pw_below_drewN | apply below_drew1) | exact HB.out)⟩

end Go.Proofs.Ytpedhffkmceldaa.X
