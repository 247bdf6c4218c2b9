import Derived.Test.YtpedhffkmceldaaX11
import Derived.Test.YtpedhffkmceldaaSVersion
namespace Go.Proofs.Ytpedhffkmceldaa.Pure
open Go.RowKit Go.Proofs.Ytpedhffkmceldaa.X Go.Proofs.YtpedhffkmceldaaW.PrintWords Go.Proofs.YtpedhffkmceldaaW.PrintLast
set_option linter.unusedVariables false
set_option linter.unusedSimpArgs false

def cmpF (x y : List Bool) (i : Nat) : Nat → Bool
  | 0 => true
  | d + 1 => (rdOf false x (i : Int) == rdOf false y (i : Int)) && cmpF x y (i + 1) d
theorem l1_ev (l x8 x10 x17 : List _) (x18 x19 : Int) (r : Bool) (h8 : x10.length ≤ x8.length) (hb : x10.length ≤ 100) : ∀ (d : Nat) (b : Bool) (i : Nat), x10.length = i + d →
    Ev (fun k => sealringlaw26_VersionTells.l0 k l (b && cmpF x8 x10 i d) x17 x18 (wrap64 (x19 + 1))) r →
    Ev (fun k => sealringlaw26_VersionTells.l1 k l b x8 x10 x17 x18 x19 (x10.length : Int) (i : Int)) r := by
  intro d
  induction d with
  | zero =>
    intro b i hi h
    refine Ev.step (fun k => ?_) h
    rw [sealringlaw26_VersionTells.l1]
    rw [if_neg (by omega)]
    simp [cmpF]
  | succ d ih =>
    intro b i hi h
    have hw : wrap64 ((i : Int) + 1) = ((i + 1 : Nat) : Int) := by unfold wrap64; omega
    cases b with
    | true =>
      refine Ev.step (fun k => ?_) (ih (rdOf false x8 (i : Int) == rdOf false x10 (i : Int)) (i + 1) (by omega) ?_)
      · rw [sealringlaw26_VersionTells.l1]
        rw [if_pos (by omega), if_pos rfl, if_pos (by omega), if_pos (by omega), if_pos (by omega), hw]
      · simpa [cmpF] using h
    | false =>
      refine Ev.step (fun k => ?_) (ih false (i + 1) (by omega) ?_)
      · rw [sealringlaw26_VersionTells.l1]
        rw [if_pos (by omega), if_neg (by simp), hw]
      · simpa [cmpF] using h
theorem cmp_feat (a b : Int) : cmpF (feat a) (feat b) 0 7 = (feat a == feat b) := by
  rw [feat_eq]
  simp only [cmpF, rdOf, feat]
  generalize decide (a ≤ 2) = a1
  generalize decide (b ≤ 2) = b1
  simp [Bool.and_assoc]
theorem main_ev (l : List Int) (hl : l.length ≤ 20) : ∀ (d i : Nat), i + d = l.length → Ev (fun k => sealringlaw26_VersionTells.l0 k l (alk l i) l (l.length : Int) (i : Int)) true := by
  intro d
  induction d with
  | zero =>
    intro i hi
    have hi' : i = l.length := by omega
    subst hi'
    refine Ev.step (f := fun k => (version_Alike.f k l).bind fun t169 => (if (t169 == alk l l.length) = true then ((sealringlaw26_lives.f k).bind fun t170 => (some t170)) else (some false))) (fun k => ?_) ?_
    · rw [sealringlaw26_VersionTells.l0]
      rw [if_neg (by omega)]
    · refine Ev.bind (alike_f l (by omega)) ?_
      exact evPos (by simp) (Ev.bind vLives_f (Ev.now _))
  | succ d ih =>
    intro i hi
    have hw : wrap64 ((i : Int) + 1) = ((i + 1 : Nat) : Int) := by unfold wrap64; omega
    by_cases ho : okv (rd l i) = true
    · refine Ev.step (f := fun k => sealringlaw26_VersionTells.j1 k l (alk l i) (feat (rd l i)) l (l.length : Int) (i : Int) false) (fun k => ?_) ?_
      · rw [sealringlaw26_VersionTells.l0]
        rw [if_pos (by omega), if_pos (by omega), if_pos (by omega), verOf_ok ho]
        rw [Option.bind_some]
        rw [refOf_ok ho]
        rw [Option.bind_some]
        rw [if_pos rfl, if_pos rfl]
        simp [feat, rdOf]
      · by_cases ho0 : okv (rd l 0) = true
        · refine Ev.step (f := fun k => sealringlaw26_VersionTells.l1 k l (alk l i) (feat (rd l i)) (feat (rd l 0)) l (l.length : Int) (i : Int) ((feat (rd l 0)).length : Int) ((0 : Nat) : Int)) (fun k => ?_) ?_
          · rw [sealringlaw26_VersionTells.j1]
            rw [if_neg (by simp), if_pos (by omega), refOf_ok ho0]
            rfl
          · refine l1_ev _ _ _ _ _ _ _ (by simp [feat]) (by simp [feat]) 7 (alk l i) 0 (by simp [feat]) ?_
            rw [cmp_feat, hw]
            have e : (alk l i && (feat (rd l i) == feat (rd l 0))) = alk l (i + 1) := by simp [alk, ho]
            rw [e]
            exact ih (i + 1) (by omega)
        · have ho0' : okv (rd l 0) = false := by simpa using ho0
          have hi0 : 0 < i := by
            cases i with
            | zero => exact absurd ho ho0
            | succ i => omega
          have hf : alk l i = false := by
            have h1 : alk l 1 = false := by simp [alk, ho0']
            have := alk_false h1 (i - 1)
            rwa [show 1 + (i - 1) = i from by omega] at this
          refine Ev.step (f := fun k => sealringlaw26_VersionTells.l1 k l (alk l i) (feat (rd l i)) ([] : List Bool) l (l.length : Int) (i : Int) ((([] : List Bool).length : Nat) : Int) ((0 : Nat) : Int)) (fun k => ?_) ?_
          · rw [sealringlaw26_VersionTells.j1]
            rw [if_neg (by simp), if_pos (by omega), refOf_no ho0']
            rfl
          · refine l1_ev _ _ _ _ _ _ _ (by simp) (by simp) 0 (alk l i) 0 (by simp) ?_
            rw [hw]
            have e : (alk l i && cmpF (feat (rd l i)) ([] : List Bool) 0 0) = alk l (i + 1) := by simp [alk, hf]
            rw [e]
            exact ih (i + 1) (by omega)
    · have ho' : okv (rd l i) = false := by simpa using ho
      have hn : alk l (i + 1) = false := by simp [alk, ho']
      refine Ev.step (fun k => ?_) (ih (i + 1) (by omega))
      rw [sealringlaw26_VersionTells.l0]
      rw [if_pos (by omega), if_pos (by omega), if_pos (by omega), verOf_no ho']
      rw [Option.bind_some]
      rw [refOf_no ho']
      rw [Option.bind_some]
      rw [if_neg (by simp), if_neg (by simp), if_pos rfl, hw, hn]
theorem VersionTells : sealringlaw26_VersionTells.Pure := by
  intro l0 h1 h2 h3
  refine Ev.rounds ?_
  unfold sealringlaw26_VersionTells.f
  by_cases hc : (l0.length : Int) > 20
  · simp only [if_pos hc]
    exact Ev.bind vLives_f (Ev.now _)
  · simp only [if_neg hc]
    exact main_ev l0 (by omega) l0.length 0 (by omega)

end Go.Proofs.Ytpedhffkmceldaa.Pure
