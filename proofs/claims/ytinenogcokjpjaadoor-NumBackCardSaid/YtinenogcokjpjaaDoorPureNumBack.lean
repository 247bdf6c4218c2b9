import Derived.Test.YtinenogcokjpjaaDoorX6
import Derived.Test.YtinenogcokjpjaaDoorSNumShow
namespace Go.Proofs.YtinenogcokjpjaaDoor.Pure
open Go.RowKit Go.Proofs.YtinenogcokjpjaaDoor.X Go.Proofs.YtinenogcokjpjaaDoorW.PrintWords Go.Proofs.YtinenogcokjpjaaDoorW.PrintLast
set_option linter.unusedVariables false
set_option linter.unusedSimpArgs false

/- NumBack: what is shown is read as it was, if it fits; what is read is shown as it stood. -/
theorem blives_f : sealringlaw05_lives.f = some true := by
  unfold sealringlaw05_lives.f
  rw [num_Scan_f (by decide), num_Scan_f (by decide), num_Scan_f (by decide)]
  rw [show numScan ⟨#[97, 49, 50, 44]⟩ 1 = (12, 3, 0) from by decide +kernel, show numScan ⟨#[48, 48, 55]⟩ 0 = (0, 0, 12) from by decide +kernel, show numScan ⟨#[57, 48, 48, 55, 49, 57, 57, 50, 53, 52, 55, 52, 48, 57, 57, 50]⟩ 0 = (0, 0, 2) from by decide +kernel]
  rfl
theorem back_j0 (t : ByteArray) (hs : t.size ≤ 140737488351232) : Ev (fun k => sealringlaw05_NumBack.j0 k t false) true := by
  have hl : Ev (fun _ => sealringlaw05_lives.f) true := by rw [blives_f]; exact Ev.now _
  obtain ⟨y, e, f, hy⟩ : ∃ y e f, numScan t 0 = (y, e, f) := ⟨_, _, _, rfl⟩
  have h1 : num_Scan.f t 0 = some (y, e, f) := by rw [num_Scan_f hs, hy]
  refine Ev.step (f := fun _ => (some (y, e, f)).bind fun bt127 => (if bt127.2.2 = 0 then ((num_Show.f bt127.1).bind fun t130 => (if 0 ≤ bt127.2.1 then (if bt127.2.1 ≤ (t.size : Int) then (if t130.toList = (t.extract 0 (bt127.2.1 : Int).toNat).toList then ((sealringlaw05_lives.f).bind fun t131 => (some t131)) else (some false)) else (none)) else (none))) else ((sealringlaw05_lives.f).bind fun t132 => (some t132)))) (fun k => ?_) ?_
  · rw [sealringlaw05_NumBack.j0, if_neg (by simp), h1]
  · refine Ev.bind (g := fun _ => some (y, e, f)) (Ev.now _) ?_
    by_cases c : f = 0
    · subst c
      obtain ⟨e0, e1, e2, e3, e4⟩ := show_scan hy
      refine evPos rfl ?_
      show Ev (fun _ => (num_Show.f y).bind _) true
      rw [num_Show_f (by omega) (by omega)]
      refine Ev.bind (g := fun _ => some (showB y)) (Ev.now _) (evPos e0 (evPos e1 (evPos ?_ (Ev.bind hl (Ev.now _)))))
      rw [t_cut e2]
    · exact evNeg c (Ev.bind hl (Ev.now _))
theorem NumBack : sealringlaw05_NumBack.Pure := by
  intro n t h hs
  have hn := i64_bounds h
  have hl : Ev (fun _ => sealringlaw05_lives.f) true := by rw [blives_f]; exact Ev.now _
  refine Ev.rounds ?_
  unfold sealringlaw05_NumBack.f
  rw [num_Show_f hn.1 hn.2]
  by_cases hc : (t.size : Int) > 300
  · exact evPos hc (Ev.bind hl (Ev.now _))
  · refine evNeg hc (Ev.bind (g := fun _ => some (showB n)) (Ev.now _) ?_)
    have hsz : (showB n).size ≤ 20 := by rw [showB_size]; exact itoa_len hn.1 hn.2
    have h1 := num_Scan_f (s := showB n) (by omega) 0
    rw [scan_show] at h1
    rw [h1]
    have j0 := back_j0 t hs
    by_cases c : -9007199254740991 ≤ n ∧ n ≤ 9007199254740991
    · have hf : num_Fits.f n = some true := by unfold num_Fits.f; rw [if_pos c.1, decide_eq_true c.2]
      rw [if_pos c, hf]
      exact Ev.bind (g := fun _ => some (n, ((showB n).size : Int), (0 : Int))) (Ev.now _) (Ev.bind (g := fun _ => some true) (Ev.now _) (evNeg (by simp) (evPos rfl (evPos rfl (evPos rfl j0)))))
    · have hf : num_Fits.f n = some false := by
        unfold num_Fits.f
        by_cases d : n ≥ -9007199254740991
        · rw [if_pos d, decide_eq_false (by omega)]
        · rw [if_neg d]
      rw [if_neg c, hf]
      exact Ev.bind (g := fun _ => some ((0 : Int), (0 : Int), (2 : Int))) (Ev.now _) (Ev.bind (g := fun _ => some false) (Ev.now _) (evNeg (by decide) (evNeg (by decide) j0)))

end Go.Proofs.YtinenogcokjpjaaDoor.Pure
