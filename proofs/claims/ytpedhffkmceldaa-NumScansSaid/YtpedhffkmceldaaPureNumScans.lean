import Derived.Test.YtpedhffkmceldaaX16
import Derived.Test.YtpedhffkmceldaaSNum
namespace Go.Proofs.Ytpedhffkmceldaa.Pure
open Go.RowKit Go.Proofs.Ytpedhffkmceldaa.X Go.Proofs.YtpedhffkmceldaaW.PrintWords Go.Proofs.YtpedhffkmceldaaW.PrintLast
set_option linter.unusedVariables false
set_option linter.unusedSimpArgs false

theorem nLives_f : sealringlaw05_lives.f = some true := by
  unfold sealringlaw05_lives.f
  rw [num_Scan_f (by decide), num_Scan_f (by decide), num_Scan_f (by decide)]
  rw [show numScan ⟨#[97, 49, 50, 44]⟩ 1 = (12, 3, 0) from by decide +kernel, show numScan ⟨#[48, 48, 55]⟩ 0 = (0, 0, 12) from by decide +kernel, show numScan ⟨#[57, 48, 48, 55, 49, 57, 57, 50, 53, 52, 55, 52, 48, 57, 57, 50]⟩ 0 = (0, 0, 2) from by decide +kernel]
  rfl
theorem nLives_ev : Ev (fun _ => sealringlaw05_lives.f) true := by rw [nLives_f]; exact Ev.now _
theorem NumScans : sealringlaw05_NumScans.Pure := by
  intro a0 a1 h1 h2
  refine Ev.rounds ?_
  unfold sealringlaw05_NumScans.f
  by_cases hc : (a0.size : Int) > 300
  · exact evPos hc (Ev.bind nLives_ev (Ev.now _))
  · refine evNeg hc ?_
    rw [num_Scan_f h1]
    exact Ev.bind (Ev.now _) (Ev.bind (refScan_ev a0 h1 a1) (evPos rfl (evPos rfl (evPos rfl (Ev.bind nLives_ev (Ev.now _))))))

end Go.Proofs.Ytpedhffkmceldaa.Pure
