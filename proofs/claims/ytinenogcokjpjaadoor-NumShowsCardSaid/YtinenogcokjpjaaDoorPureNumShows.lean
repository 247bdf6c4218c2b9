import Derived.Test.YtinenogcokjpjaaDoorX5
import Derived.Test.YtinenogcokjpjaaDoorSNumShow
namespace Go.Proofs.YtinenogcokjpjaaDoor.Pure
open Go.RowKit Go.Proofs.YtinenogcokjpjaaDoor.X Go.Proofs.YtinenogcokjpjaaDoorW.PrintWords Go.Proofs.YtinenogcokjpjaaDoorW.PrintLast
set_option linter.unusedVariables false
set_option linter.unusedSimpArgs false

/- NumShows: any number's digits, and whether it fits, are the document's. -/
theorem nlives_f : sealringlaw05_lives.f = some true := by
  unfold sealringlaw05_lives.f
  rw [num_Scan_f (by decide), num_Scan_f (by decide), num_Scan_f (by decide)]
  rw [show numScan ⟨#[97, 49, 50, 44]⟩ 1 = (12, 3, 0) from by decide +kernel, show numScan ⟨#[48, 48, 55]⟩ 0 = (0, 0, 12) from by decide +kernel, show numScan ⟨#[57, 48, 48, 55, 49, 57, 57, 50, 53, 52, 55, 52, 48, 57, 57, 50]⟩ 0 = (0, 0, 2) from by decide +kernel]
  rfl
theorem NumShows : sealringlaw05_NumShows.Pure := by
  intro n h
  have hn := i64_bounds h
  refine Ev.rounds ?_
  unfold sealringlaw05_NumShows.f
  rw [num_Show_f hn.1 hn.2]
  have hl : Ev (fun _ => sealringlaw05_lives.f) true := by rw [nlives_f]; exact Ev.now _
  refine Ev.bind (g := fun _ => some (showB n)) (Ev.now _) (Ev.bind (rShow_ev n hn.1 hn.2) (evPos rfl ?_))
  by_cases c : n ≥ -9007199254740991
  · have hf : num_Fits.f n = some (decide (n ≤ 9007199254740991)) := by unfold num_Fits.f; rw [if_pos c]
    rw [hf]
    exact Ev.bind (g := fun _ => some (decide (n ≤ 9007199254740991))) (Ev.now _) (evPos c (evPos (by simp) (Ev.bind hl (Ev.now _))))
  · have hf : num_Fits.f n = some false := by unfold num_Fits.f; rw [if_neg c]
    rw [hf]
    exact Ev.bind (g := fun _ => some false) (Ev.now _) (evNeg c (evPos (by simp) (Ev.bind hl (Ev.now _))))

end Go.Proofs.YtinenogcokjpjaaDoor.Pure
