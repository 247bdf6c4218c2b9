import Derived.Test.YtpedhffkmceldaaX0
namespace Go.Proofs.Ytpedhffkmceldaa.X
open Go.RowKit Go.Proofs.YtpedhffkmceldaaW.PrintWords Go.Proofs.YtpedhffkmceldaaW.PrintLast Go.Proofs.YtpedhffkmceldaaW.PrintMore
set_option linter.unusedVariables false
set_option linter.unusedSimpArgs false
def version_Of.f (a0 : Int) : Option (Bool × Bool × Bool × Bool × Bool × Bool × Bool × Int) :=
  if a0 < 1 then some (false, false, false, false, false, false, false, 24) else if a0 > 11 then some (false, false, false, false, false, false, false, 24)
  else some (!decide (3 ≤ a0), !decide (3 ≤ a0), decide (4 ≤ a0), !decide (6 ≤ a0), decide (8 ≤ a0), decide (9 ≤ a0), decide (11 ≤ a0), 0)
set_option maxHeartbeats 800000 in
set_option maxRecDepth 100000 in
theorem version_Of.calls (a0 : Int) (r1 r2 r3 r4 r5 r6 r7 : Bool) (r8 : Int) (w : World) (h : version_Of.f a0 = some (r1, r2, r3, r4, r5, r6, r7, r8)) :
    Calls Try.prog 13 #[.int .i64 a0] w fun e w' => e = .returned (.tuple #[.agg #[.bool r1, .bool r2, .bool r3, .bool r4, .bool r5, .bool r6, .bool r7], .int .i64 r8]) ∧ Below w.heap.size w w' := by
  unfold version_Of.f at h
  by_cases c1 : a0 < 1
  · rw [if_pos c1] at h
    simp only [Option.some.injEq, Prod.mk.injEq] at h
    obtain ⟨rfl, rfl, rfl, rfl, rfl, rfl, rfl, rfl⟩ := h
    go_enter Try.func13, Try.ntmps13
    go_wp2
    refine bodyPost_ret (v := .tuple #[.agg #[.bool false, .bool false, .bool false, .bool false, .bool false, .bool false, .bool false], .int .i64 24]) (by simp [results, Try.results13, go_sem]) rfl ⟨rfl, ?_⟩
    exact below_alloc (below_alloc (Below.refl _ _) _) _
  · rw [if_neg c1] at h
    by_cases c2 : a0 > 11
    · rw [if_pos c2] at h
      simp only [Option.some.injEq, Prod.mk.injEq] at h
      obtain ⟨rfl, rfl, rfl, rfl, rfl, rfl, rfl, rfl⟩ := h
      go_enter Try.func13, Try.ntmps13
      go_wp2
      refine bodyPost_ret (v := .tuple #[.agg #[.bool false, .bool false, .bool false, .bool false, .bool false, .bool false, .bool false], .int .i64 24]) (by simp [results, Try.results13, go_sem]) rfl ⟨rfl, ?_⟩
      exact below_alloc (below_alloc (Below.refl _ _) _) _
    · rw [if_neg c2] at h
      simp only [Option.some.injEq, Prod.mk.injEq] at h
      obtain ⟨rfl, rfl, rfl, rfl, rfl, rfl, rfl, rfl⟩ := h
      go_enter Try.func13, Try.ntmps13
      go_wp2
      refine bodyPost_ret (v := .tuple #[.agg #[.bool (!decide (3 ≤ a0)), .bool (!decide (3 ≤ a0)), .bool (decide (4 ≤ a0)), .bool (!decide (6 ≤ a0)), .bool (decide (8 ≤ a0)), .bool (decide (9 ≤ a0)), .bool (decide (11 ≤ a0))], .int .i64 0]) (by simp [results, Try.results13, go_sem]) rfl ⟨rfl, ?_⟩
      exact below_alloc (below_alloc (Below.refl _ _) _) _
end Go.Proofs.Ytpedhffkmceldaa.X
