import Derived.Test.YtpedhffkmceldaaHVersion
import Derived.Test.YtpedhffkmceldaaSBase
import Derived.Test.YtpedhffkmceldaaX10
import Derived.Test.YtpedhffkmceldaaX8
import Derived.Test.YtpedhffkmceldaaX9
namespace Go.Proofs.Ytpedhffkmceldaa.X
open Go.RowKit Go.Proofs.YtpedhffkmceldaaW.PrintWords Go.Proofs.YtpedhffkmceldaaW.PrintLast
set_option linter.unusedVariables false
set_option linter.unusedSimpArgs false

def feat (v : Int) : List Bool := [decide (v ≤ 2), decide (v ≤ 2), decide (v ≥ 4), decide (v ≤ 5), decide (v ≥ 8), decide (v ≥ 9), decide (v ≥ 11)]
def okv (v : Int) : Bool := decide (1 ≤ v) && decide (v ≤ 11)
theorem okv_true {v : Int} (h : okv v = true) : 1 ≤ v ∧ v ≤ 11 := by simpa [okv] using h
theorem okv_false {v : Int} (h : okv v = false) : v < 1 ∨ 11 < v := by
  unfold okv at h
  by_cases h1 : v < 1
  · exact .inl h1
  · right; simp at h; omega
theorem refOf_ok {v : Int} (h : okv v = true) : sealringref26_Of.f v = some (feat v, true) := by
  obtain ⟨h1, h2⟩ := okv_true h
  unfold sealringref26_Of.f feat
  rw [if_neg (by omega), if_neg (by omega)]
theorem refOf_no {v : Int} (h : okv v = false) : sealringref26_Of.f v = some (([] : List Bool), false) := by
  unfold sealringref26_Of.f
  rcases okv_false h with h1 | h1
  · rw [if_pos h1]
  · rw [if_neg (by omega), if_pos (by omega)]
theorem verOf_ok {v : Int} (h : okv v = true) : version_Of.f v = some (decide (v ≤ 2), decide (v ≤ 2), decide (v ≥ 4), decide (v ≤ 5), decide (v ≥ 8), decide (v ≥ 9), decide (v ≥ 11), 0) := by
  obtain ⟨h1, h2⟩ := okv_true h
  unfold version_Of.f
  rw [if_neg (by omega), if_neg (by omega)]
  have e1 : (!decide (3 ≤ v)) = decide (v ≤ 2) := by
    by_cases c : 3 ≤ v
    · simp [c]; omega
    · simp [c]; omega
  have e2 : (!decide (6 ≤ v)) = decide (v ≤ 5) := by
    by_cases c : 6 ≤ v
    · simp [c]; omega
    · simp [c]; omega
  rw [e1, e2]
theorem verOf_no {v : Int} (h : okv v = false) : version_Of.f v = some (false, false, false, false, false, false, false, 24) := by
  unfold version_Of.f
  rcases okv_false h with h1 | h1
  · rw [if_pos h1]
  · rw [if_neg (by omega), if_pos (by omega)]

def alk (l : List Int) : Nat → Bool
  | 0 => true
  | i + 1 => alk l i && (okv (rd l i) && (feat (rd l i) == feat (rd l 0)))
theorem alk_false {l : List Int} {i : Nat} (h : alk l i = false) : ∀ d, alk l (i + d) = false
  | 0 => h
  | d + 1 => by
    have := alk_false h d
    show alk l (i + d + 1) = false
    simp [alk, this]
theorem feat_eq (a b : Int) : (feat a == feat b) = !(!(decide (a ≤ 2) == decide (b ≤ 2)) || (!(decide (a ≤ 2) == decide (b ≤ 2)) || (!(decide (a ≥ 4) == decide (b ≥ 4)) || (!(decide (a ≤ 5) == decide (b ≤ 5)) || (!(decide (a ≥ 8) == decide (b ≥ 8)) || (!(decide (a ≥ 9) == decide (b ≥ 9)) || (!(decide (a ≥ 11) == decide (b ≥ 11))))))))) := by
  unfold feat
  generalize decide (a ≤ 2) = a1
  generalize decide (a ≥ 4) = a2
  generalize decide (a ≤ 5) = a3
  generalize decide (a ≥ 8) = a4
  generalize decide (a ≥ 9) = a5
  generalize decide (a ≥ 11) = a6
  generalize decide (b ≤ 2) = b1
  generalize decide (b ≥ 4) = b2
  generalize decide (b ≤ 5) = b3
  generalize decide (b ≥ 8) = b4
  generalize decide (b ≥ 9) = b5
  generalize decide (b ≥ 11) = b6
  cases a1 <;> cases b1 <;> cases a2 <;> cases b2 <;> cases a3 <;> cases b3 <;> first | rfl | (cases a4 <;> cases b4 <;> cases a5 <;> cases b5 <;> cases a6 <;> cases b6 <;> rfl)
theorem alike_ev (l : List Int) (hl : l.length ≤ 9223372036854775806) : ∀ (d i : Nat), i + d = l.length → alk l i = true → Ev (fun k => version_Alike.l0 k l l (l.length : Int) (i : Int)) (alk l l.length) := by
  intro d
  induction d with
  | zero =>
    intro i hi ha
    have hi' : i = l.length := by omega
    subst hi'
    refine Ev.step (f := fun _ => some (alk l l.length)) (fun k => ?_) (Ev.now _)
    simp only [version_Alike.l0]
    rw [if_neg (by omega), ha]
  | succ d ih =>
    intro i hi ha
    have hw : wrap64 ((i : Int) + 1) = ((i + 1 : Nat) : Int) := by unfold wrap64; omega
    by_cases ho : okv (rd l i) = true
    · have ho0 : okv (rd l 0) = true := by
        cases i with
        | zero => exact ho
        | succ i =>
          clear ih hw ho hi
          induction i with
          | zero => simp [alk] at ha; exact ha
          | succ i ih2 =>
            have : alk l (i + 1) = true := by
              have h2 : alk l (i + 1 + 1) = (alk l (i + 1) && (okv (rd l ((i + 1 : Nat) : Int)) && (feat (rd l ((i + 1 : Nat) : Int)) == feat (rd l 0)))) := rfl
              rw [h2] at ha
              simp only [Bool.and_eq_true] at ha
              exact ha.1
            exact ih2 this
      by_cases hf : (feat (rd l i) == feat (rd l 0)) = true
      · have hn : alk l (i + 1) = true := by simp [alk, ha, ho, hf]
        refine Ev.step (fun k => ?_) (ih (i + 1) (by omega) hn)
        simp only [version_Alike.l0]
        rw [if_pos (by omega), if_pos (by omega), if_pos (by omega), verOf_ok ho]
        simp only [Option.bind_some]
        rw [if_pos (by omega), verOf_ok ho0]
        simp only [Option.bind_some]
        rw [if_pos trivial]
        rw [feat_eq] at hf
        by_cases hi0 : (i : Int) > 0
        · rw [if_pos hi0, if_neg (of_not_true hf), hw]
        · rw [if_neg hi0, hw]
      · have hn : alk l (i + 1) = false := by simp [alk, ha, ho]; simpa using hf
        have hn2 := alk_false hn d
        rw [show i + 1 + d = l.length from by omega] at hn2
        rw [hn2]
        refine Ev.step (f := fun _ => some false) (fun k => ?_) (Ev.now _)
        simp only [version_Alike.l0]
        rw [if_pos (by omega), if_pos (by omega), if_pos (by omega), verOf_ok ho]
        simp only [Option.bind_some]
        rw [if_pos (by omega), verOf_ok ho0]
        simp only [Option.bind_some]
        rw [if_pos trivial]
        have hi0 : (i : Int) > 0 := by
          cases i with
          | zero => exact absurd (by simp) hf
          | succ i => omega
        rw [feat_eq] at hf
        rw [if_pos hi0, if_pos (not_not_true hf)]
    · have ho' : okv (rd l i) = false := by simpa using ho
      have hn : alk l (i + 1) = false := by simp [alk, ho']
      have hn2 := alk_false hn d
      rw [show i + 1 + d = l.length from by omega] at hn2
      rw [hn2]
      refine Ev.step (f := fun _ => some false) (fun k => ?_) (Ev.now _)
      simp only [version_Alike.l0]
      rw [if_pos (by omega), if_pos (by omega), if_pos (by omega), verOf_no ho']
      simp only [Option.bind_some]
      rw [if_pos (by omega)]
      by_cases ho0 : okv (rd l 0) = true
      · rw [verOf_ok ho0]
        simp only [Option.bind_some]
        rw [if_neg (by decide)]
      · rw [verOf_no (by simpa using ho0)]
        simp only [Option.bind_some]
        rw [if_neg (by decide)]
theorem alike_f (l : List Int) (hl : l.length ≤ 9223372036854775806) : Ev (fun k => version_Alike.f k l) (alk l l.length) := alike_ev l hl l.length 0 (by omega) rfl
theorem vLives_f : Ev (fun k => sealringlaw26_lives.f k) true := by
  unfold sealringlaw26_lives.f
  rw [verOf_ok (v := 3) (by decide), verOf_no (v := 12) (by decide)]
  simp only [Option.bind_some]
  refine Ev.congr (f := fun k => (version_Alike.f k [4, 5]).bind fun t160 => if t160 = true then (version_Alike.f k [3, 4]).bind fun t164 => some (!t164) else some false) (fun k => by rw [if_pos (by decide)]; simp only [if_true]) ?_
  refine Ev.bind (alike_f [4, 5] (by decide)) (evPos (by decide) ?_)
  exact Ev.bind (alike_f [3, 4] (by decide)) (Ev.now _)
end Go.Proofs.Ytpedhffkmceldaa.X
