import Derived.Test.YtpedhffkmceldaaX6
import Derived.Test.YtpedhffkmceldaaSBound
namespace Go.Proofs.Ytpedhffkmceldaa.Pure
open Go.RowKit Go.Proofs.Ytpedhffkmceldaa.X Go.Proofs.YtpedhffkmceldaaW.PrintWords Go.Proofs.YtpedhffkmceldaaW.PrintLast
set_option linter.unusedVariables false
set_option linter.unusedSimpArgs false

theorem BoundTells : sealringlaw12_BoundTells.Pure := by
  intro a0 hw
  have hb : -9223372036854775808 ≤ a0 ∧ a0 ≤ 9223372036854775807 := by simpa [Lit.wf, IntKind.min, IntKind.max, IntKind.signed, IntKind.bits] using hw
  refine ⟨64, ?_⟩
  unfold sealringlaw12_BoundTells.f
  rw [bLog_f a0 64 hb.2 (by omega), rLog_f _ a0 64 rfl hb.2 (lg_lt (m := 62) (by omega)) (by have := lg_lt (x := a0) (m := 62) (by omega); omega), bSteps_f a0 64 (by omega), rSteps_f a0 64 (by omega), bLives_f 64 (by omega)]
  simp

end Go.Proofs.Ytpedhffkmceldaa.Pure
