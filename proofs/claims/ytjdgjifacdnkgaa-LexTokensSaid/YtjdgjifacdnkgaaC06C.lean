import Derived.Test.YtjdgjifacdnkgaaC06C4
import Derived.Test.YtjdgjifacdnkgaaRows
import Derived.WalkKit
import Derived.ProofKit
import Derived.OpenShut
import Derived.ShutString
import Derived.ChangeOld
import Derived.Below
import Derived.SizedLaws
section
namespace Go.Proofs.Ytjdgjifacdnkgaa.X
open Go.RowKit Go.Proofs.YtjdgjifacdnkgaaW.PrintWords Go.Proofs.YtjdgjifacdnkgaaW.PrintLast Go.Proofs.YtjdgjifacdnkgaaW.PrintMore
attribute [local go_sem] max2_int min2_int max_two min_two max_three min_three max_four min_four
set_option linter.unusedVariables false
set_option linter.unusedSimpArgs false
attribute [local go_sem high] eqA24
def sealringref06_Same.l0 : Nat → List (S24) → List (S24) → Int → Option (Bool)
  | 0, _, _, _ => none
  | k + 1, x0, x1, x5 => if x5 < (x0.length : Int) then (if 0 ≤ x5 then (if x5 < (x1.length : Int) then (if (!(((rd_T24 x0 x5).f0) == ((rd_T24 x1 x5).f0)) || (!(((rd_T24 x0 x5).f1) == ((rd_T24 x1 x5).f1)) || (!(((rd_T24 x0 x5).f2) == ((rd_T24 x1 x5).f2)) || (!(((rd_T24 x0 x5).f3) == ((rd_T24 x1 x5).f3)) || (!((((rd_T24 x0 x5).f4).toList) == (((rd_T24 x1 x5).f4).toList))))))) = true then (some false) else (sealringref06_Same.l0 k x0 x1 (wrap64 (x5 + 1)))) else (none)) else (none)) else (some true)
def sealringref06_Same.f (k : Nat) (l0 : List (S24)) (l1 : List (S24)) : Option (Bool) := if (l0.length : Int) = (l1.length : Int) then (sealringref06_Same.l0 k l0 l1 0) else (some false)
theorem sealringref06_Same.mono_l : ∀ k, (∀ y0 y1 y2, LeO (sealringref06_Same.l0 k y0 y1 y2) (sealringref06_Same.l0 (k + 1) y0 y1 y2))
  | 0 => fun _ _ _ r h => by simp [sealringref06_Same.l0] at h
  | k + 1 => by
    have ih0 := sealringref06_Same.mono_l k
    · intro y0 y1 y2
      unfold sealringref06_Same.l0
      repeat' first
      | (with_reducible exact ih0 _ _ _)
      | (with_reducible exact LeO.refl _)
      | (with_reducible exact LeO.none _)
      | (with_reducible refine LeO.ite ?_ ?_)
      | (with_reducible refine LeO.bind ?_ (fun _ => ?_))
      | exact ih0 _ _ _
      | exact LeO.none _
      | refine LeO.ite ?_ ?_
      | refine LeO.bind ?_ (fun _ => ?_)
theorem sealringref06_Same.mono : ∀ a0 a1 k, LeO (sealringref06_Same.f k a0 a1) (sealringref06_Same.f (k + 1) a0 a1) := by
  intro a0 a1 k
  have ih0 := sealringref06_Same.mono_l k
  unfold sealringref06_Same.f
  repeat' first
      | (with_reducible exact ih0 _ _ _)
      | (with_reducible exact LeO.refl _)
      | (with_reducible exact LeO.none _)
      | (with_reducible refine LeO.ite ?_ ?_)
      | (with_reducible refine LeO.bind ?_ (fun _ => ?_))
      | exact ih0 _ _ _
      | exact LeO.none _
      | refine LeO.ite ?_ ?_
      | refine LeO.bind ?_ (fun _ => ?_)
set_option maxHeartbeats 8000000 in
set_option maxRecDepth 100000 in
theorem sealringref06_Same.calls (k : Nat) (A0 : Option Addr) (c0 : Nat) (l0 : List (S24)) (A1 : Option Addr) (c1 : Nat) (l1 : List (S24)) (r : Bool) (w : World) (hr0 : Kd.C k24 w A0 l0.length l0) (hc0 : l0.length ≤ c0) (hr1 : Kd.C k24 w A1 l1.length l1) (hc1 : l1.length ≤ c1) (h : sealringref06_Same.f k l0 l1 = some r) :
    Calls Try.prog 12 #[.slice A0 l0.length c0, .slice A1 l1.length c1] w fun e w' => e = .returned (.bool r) ∧ Drawn0 w w' := by
  have hu24 := Try.underlying24
  have HR0 := Aside0.mk hr0
  have HC0 := Aside0.mk hc0
  clear hr0 hc0
  have HR1 := Aside0.mk hr1
  have HC1 := Aside0.mk hc1
  clear hr1 hc1
  have H : (if (l0.length : Int) = (l1.length : Int) then (sealringref06_Same.l0 k l0 l1 0) else (some false)) = some r := h
  clear h
  by_cases c3 : (l0.length : Int) = (l1.length : Int)
  · rw [if_pos c3] at H
    have c3b0 : ((l0.length : Int) == (l1.length : Int)) = true := beq_iff_eq.mpr c3
    have c3b1 : ((l0.length : Int) != (l1.length : Int)) = false := bne_eq_false_iff_eq.mpr c3
    have c3b2 : (l0.length == l1.length) = true := by first | simpa using c3 | (simp at c3 ⊢; omega)
    clear c3
    have H' := Aside0.mk H
    clear H
    go_enter Try.func12, Try.ntmps12
    go_wp2
    repeat (go_quiet (fail); try go_wp2)
    go_loopg [5] k (fun kq v5 w' => ∃ (x5_1 : Int), v5 = .int .i64 x5_1 ∧ Aside0 (sealringref06_Same.l0 kq l0 l1 x5_1 = some r) ∧ Aside0 (kq ≤ k) ∧ Drawn0 w w')
    case atStart => exact ⟨(0), (by first | rfl | (simp; done) | (simp [*]; done) | (simp [wrap64]; done)), (by first | with_reducible exact H' | exact H' | (subst_vars; exact H')), ⟨Nat.le_refl _⟩, by repeat (first | exact Drawn0.refl _ | apply Drawn0.step)⟩
    case round =>
      clear H'
      try clear c1
      try clear p2
      try clear c3
      try clear c3b0
      try clear c3b1
      try clear c3b2
      obtain ⟨x5_1, rfl, HA, HK1, ⟨m1, rfl⟩⟩ := hrel
      cases gk with
      | zero => exact absurd HA.out (by simp [sealringref06_Same.l0])
      | succ k1 =>
        have H := HA.out
        clear HA
        simp only [sealringref06_Same.l0] at H
        by_cases c4 : x5_1 < (l0.length : Int)
        · rw [if_pos c4] at H
          have c4b0 : decide (x5_1 < (l0.length : Int)) = true := decide_eq_true c4
          clear c4
          by_cases c5 : 0 ≤ x5_1
          · rw [if_pos c5] at H
            have c5b0 : decide (0 ≤ x5_1) = true := decide_eq_true c5
            clear c5
            by_cases c6 : x5_1 < (l1.length : Int)
            · rw [if_pos c6] at H
              have c6b0 : decide (x5_1 < (l1.length : Int)) = true := decide_eq_true c6
              clear c6
              by_cases c7 : (!(((rd_T24 l0 x5_1).f0) == ((rd_T24 l1 x5_1).f0)) || (!(((rd_T24 l0 x5_1).f1) == ((rd_T24 l1 x5_1).f1)) || (!(((rd_T24 l0 x5_1).f2) == ((rd_T24 l1 x5_1).f2)) || (!(((rd_T24 l0 x5_1).f3) == ((rd_T24 l1 x5_1).f3)) || (!((((rd_T24 l0 x5_1).f4).toList) == (((rd_T24 l1 x5_1).f4).toList))))))) = true
              · rw [if_pos c7] at H
                have c7b0 : (!(((rd_T24 l0 x5_1).f0) == ((rd_T24 l1 x5_1).f0)) || (!(((rd_T24 l0 x5_1).f1) == ((rd_T24 l1 x5_1).f1)) || (!(((rd_T24 l0 x5_1).f2) == ((rd_T24 l1 x5_1).f2)) || (!(((rd_T24 l0 x5_1).f3) == ((rd_T24 l1 x5_1).f3)) || (!((((rd_T24 l0 x5_1).f4).toList) == (((rd_T24 l1 x5_1).f4).toList))))))) = true := c7
                clear c7
                obtain rfl := Option.some.inj H
                have p203 : 0 ≤ (x5_1 : Int) := of_decide_eq_true (by first | (with_reducible assumption) | assumption)
                have q203 : x5_1 < (l0.length : Int) := of_decide_eq_true (by first | (with_reducible assumption) | assumption)
                obtain ⟨ad203, e203, hx203_0, hx203_1, hx203_2, hx203_3, hx203_4⟩ := at_T24 HR0.out x5_1 p203 q203
                cases e203
                replace p203 := eq_true p203
                replace q203 := eq_true q203
                have p204 : 0 ≤ (x5_1 : Int) := of_decide_eq_true (by first | (with_reducible assumption) | assumption)
                have q204 : x5_1 < (l1.length : Int) := of_decide_eq_true (by first | (with_reducible assumption) | assumption)
                obtain ⟨ad204, e204, hx204_0, hx204_1, hx204_2, hx204_3, hx204_4⟩ := at_T24 HR1.out x5_1 p204 q204
                cases e204
                replace p204 := eq_true p204
                replace q204 := eq_true q204
                go_wp2
                repeat (go_quiet (fail); try go_wp2)
                go_ret
                exact ⟨by first | rfl | (simp; done) | (simp [*]; done), by repeat (first | exact Drawn0.refl _ | apply Drawn0.step)⟩
              · rw [if_neg c7] at H
                have c7b0 : (!(((rd_T24 l0 x5_1).f0) == ((rd_T24 l1 x5_1).f0)) || (!(((rd_T24 l0 x5_1).f1) == ((rd_T24 l1 x5_1).f1)) || (!(((rd_T24 l0 x5_1).f2) == ((rd_T24 l1 x5_1).f2)) || (!(((rd_T24 l0 x5_1).f3) == ((rd_T24 l1 x5_1).f3)) || (!((((rd_T24 l0 x5_1).f4).toList) == (((rd_T24 l1 x5_1).f4).toList))))))) = false := by simpa using c7
                clear c7
                have H' := Aside0.mk H
                clear H
                have p203 : 0 ≤ (x5_1 : Int) := of_decide_eq_true (by first | (with_reducible assumption) | assumption)
                have q203 : x5_1 < (l0.length : Int) := of_decide_eq_true (by first | (with_reducible assumption) | assumption)
                obtain ⟨ad203, e203, hx203_0, hx203_1, hx203_2, hx203_3, hx203_4⟩ := at_T24 HR0.out x5_1 p203 q203
                cases e203
                replace p203 := eq_true p203
                replace q203 := eq_true q203
                have p204 : 0 ≤ (x5_1 : Int) := of_decide_eq_true (by first | (with_reducible assumption) | assumption)
                have q204 : x5_1 < (l1.length : Int) := of_decide_eq_true (by first | (with_reducible assumption) | assumption)
                obtain ⟨ad204, e204, hx204_0, hx204_1, hx204_2, hx204_3, hx204_4⟩ := at_T24 HR1.out x5_1 p204 q204
                cases e204
                replace p204 := eq_true p204
                replace q204 := eq_true q204
                go_wp2
                repeat (go_quiet (fail); try go_wp2)
                go_roundg k1
                case measure => have := HK1.out; omega
                case rel => exact ⟨(wrap64 (x5_1 + 1)), (by first | rfl | (simp; done) | (simp [*]; done) | (simp [wrap64]; done)), (by first | with_reducible exact H' | exact H' | (subst_vars; exact H')), ⟨by have := HK1.out; omega⟩, by repeat (first | exact Drawn0.refl _ | apply Drawn0.step)⟩
            · rw [if_neg c6] at H
              exact absurd H (by simp)
          · rw [if_neg c5] at H
            exact absurd H (by simp)
        · rw [if_neg c4] at H
          have c4b0 : decide (x5_1 < (l0.length : Int)) = false := decide_eq_false c4
          clear c4
          obtain rfl := Option.some.inj H
          go_wp2
          repeat (go_quiet (fail); try go_wp2)
          go_ret
          exact ⟨by first | rfl | (simp; done) | (simp [*]; done), by repeat (first | exact Drawn0.refl _ | apply Drawn0.step)⟩
  · rw [if_neg c3] at H
    have c3b0 : ((l0.length : Int) == (l1.length : Int)) = false := beq_eq_false_iff_ne.mpr c3
    have c3b1 : ((l0.length : Int) != (l1.length : Int)) = true := bne_iff_ne.mpr c3
    have c3b2 : (l0.length == l1.length) = false := by first | simpa using c3 | (simp at c3 ⊢; omega)
    obtain rfl := Option.some.inj H
    go_enter Try.func12, Try.ntmps12
    go_wp2
    repeat (go_quiet (fail); try go_wp2)
    go_ret
    exact ⟨by first | rfl | (simp; done) | (simp [*]; done), by repeat (first | exact Drawn0.refl _ | apply Drawn0.step)⟩
end Go.Proofs.Ytjdgjifacdnkgaa.X
end
section
namespace Go.Proofs.Ytjdgjifacdnkgaa.X
open Go.RowKit Go.Proofs.YtjdgjifacdnkgaaW.PrintWords Go.Proofs.YtjdgjifacdnkgaaW.PrintLast Go.Proofs.YtjdgjifacdnkgaaW.PrintMore
attribute [local go_sem] max2_int min2_int max_two min_two max_three min_three max_four min_four
set_option linter.unusedVariables false
set_option linter.unusedSimpArgs false
def sealringlaw06_lives.f  : Option (Bool) := (lex_Tokens.f (⟨#[91, 49, 44, 32, 34, 97, 34, 93]⟩ : ByteArray)).bind fun bt119 => ((lex_Tokens.f (⟨#[91, 48, 49]⟩ : ByteArray)).bind fun bt124 => (if (bt119.1.length : Int) = 6 then (if 3 < (bt119.1.length : Int) then (if ((rd_T24 bt119.1 3).f4).toList = ([97] : List UInt8) then (if bt119.2.1 = 0 then (if bt119.2.2 = 0 then (if bt124.2.1 = 1 then (some (bt124.2.2 == 12)) else (some false)) else (some false)) else (some false)) else (some false)) else (none)) else (some false)))
set_option maxHeartbeats 8000000 in
set_option maxRecDepth 100000 in
theorem sealringlaw06_lives.calls  (r : Bool) (w : World) (h : sealringlaw06_lives.f  = some r) :
    Calls Try.prog 6 #[] w fun e w' => e = .returned (.bool r) ∧ Below w.heap.size w w' := by
  have HB := Aside0.mk (Below.refl w.heap.size w)
  have H : ((lex_Tokens.f (⟨#[91, 49, 44, 32, 34, 97, 34, 93]⟩ : ByteArray)).bind fun bt119 => ((lex_Tokens.f (⟨#[91, 48, 49]⟩ : ByteArray)).bind fun bt124 => (if (bt119.1.length : Int) = 6 then (if 3 < (bt119.1.length : Int) then (if ((rd_T24 bt119.1 3).f4).toList = ([97] : List UInt8) then (if bt119.2.1 = 0 then (if bt119.2.2 = 0 then (if bt124.2.1 = 1 then (some (bt124.2.2 == 12)) else (some false)) else (some false)) else (some false)) else (some false)) else (none)) else (some false)))) = some r := h
  clear h
  replace H := Option.bind_eq_some_iff.mp H
  obtain ⟨⟨t119, t120, t121⟩, A10, H⟩ := H
  replace H : ((lex_Tokens.f (⟨#[91, 48, 49]⟩ : ByteArray)).bind fun bt124 => (if (t119.length : Int) = 6 then (if 3 < (t119.length : Int) then (if ((rd_T24 t119 3).f4).toList = ([97] : List UInt8) then (if t120 = 0 then (if t121 = 0 then (if bt124.2.1 = 1 then (some (bt124.2.2 == 12)) else (some false)) else (some false)) else (some false)) else (some false)) else (none)) else (some false))) = some r := H
  have A1 := Aside0.mk A10
  clear A10
  replace H := Option.bind_eq_some_iff.mp H
  obtain ⟨⟨t124, t125, t126⟩, A20, H⟩ := H
  replace H : (if (t119.length : Int) = 6 then (if 3 < (t119.length : Int) then (if ((rd_T24 t119 3).f4).toList = ([97] : List UInt8) then (if t120 = 0 then (if t121 = 0 then (if t125 = 1 then (some (t126 == 12)) else (some false)) else (some false)) else (some false)) else (some false)) else (none)) else (some false)) = some r := H
  have A2 := Aside0.mk A20
  clear A20
  by_cases c3 : (t119.length : Int) = 6
  · rw [if_pos c3] at H
    have c3b0 : ((t119.length : Int) == 6) = true := beq_iff_eq.mpr c3
    have c3b1 : ((t119.length : Int) != 6) = false := bne_eq_false_iff_eq.mpr c3
    clear c3
    by_cases c4 : 3 < (t119.length : Int)
    · rw [if_pos c4] at H
      have c4b0 : decide (3 < (t119.length : Int)) = true := decide_eq_true c4
      have c4b1 : decide (3 < t119.length) = true := decide_eq_true (by omega)
      clear c4
      by_cases c5 : ((rd_T24 t119 3).f4).toList = ([97] : List UInt8)
      · rw [if_pos c5] at H
        have c5b0 : (((rd_T24 t119 3).f4).toList == ([97] : List UInt8)) = true := beq_iff_eq.mpr c5
        have c5b1 : (((rd_T24 t119 3).f4).toList != ([97] : List UInt8)) = false := bne_eq_false_iff_eq.mpr c5
        clear c5
        by_cases c6 : t120 = 0
        · rw [if_pos c6] at H
          have c6b0 : (t120 == 0) = true := beq_iff_eq.mpr c6
          have c6b1 : (t120 != 0) = false := bne_eq_false_iff_eq.mpr c6
          clear c6
          by_cases c7 : t121 = 0
          · rw [if_pos c7] at H
            have c7b0 : (t121 == 0) = true := beq_iff_eq.mpr c7
            have c7b1 : (t121 != 0) = false := bne_eq_false_iff_eq.mpr c7
            clear c7
            by_cases c8 : t125 = 1
            · rw [if_pos c8] at H
              have c8b0 : (t125 == 1) = true := beq_iff_eq.mpr c8
              have c8b1 : (t125 != 1) = false := bne_eq_false_iff_eq.mpr c8
              clear c8
              obtain rfl := Option.some.inj H
              go_enter Try.func6, Try.ntmps6
              go_wp2_with (first | ((with_reducible refine gate_callee (f := 9) rfl ?_); refine goesL_ (some 8) rfl rfl Try.func9 (by kernel_rfl) rfl #[.string (⟨#[91, 49, 44, 32, 34, 97, 34, 93]⟩ : ByteArray)] rfl (by (try simp only [List.map_toArray, List.map_cons, List.map_nil]); first | done | rfl | (simp only [List.length_drop, List.length_take]; rfl)) ?_; (with_reducible refine (lex_Tokens.calls (⟨#[91, 49, 44, 32, 34, 97, 34, 93]⟩ : ByteArray) t119 t120 t121 _ A1.out).mono ?_); rintro e w9 ⟨v122, rfl, ho0, hb⟩; refine ⟨_, rfl, ?_⟩; have n0_ := Aside0.mk (Kd.R_lower ho0 (below_size (by repeat (first | (with_reducible first | exact HB.out | apply below_alloc | apply pw_below_drewN | apply below_drew1) | exact HB.out)))); have n1_ := Aside0.mk (below_step (by repeat (first | (with_reducible first | exact HB.out | apply below_alloc | apply pw_below_drewN | apply below_drew1) | exact HB.out)) hb); clear HB; have HO123 := n0_; have HB := n1_; clear n0_ n1_; (try clear hb); (try clear hb2); (try clear hk); (try clear hi); (try clear ho0)) | ((with_reducible refine gate_callee (f := 9) rfl ?_); refine goesL_ (some 13) rfl rfl Try.func9 (by kernel_rfl) rfl #[.string (⟨#[91, 48, 49]⟩ : ByteArray)] rfl (by (try simp only [List.map_toArray, List.map_cons, List.map_nil]); first | done | rfl | (simp only [List.length_drop, List.length_take]; rfl)) ?_; (with_reducible refine (lex_Tokens.calls (⟨#[91, 48, 49]⟩ : ByteArray) t124 t125 t126 _ A2.out).mono ?_); rintro e w10 ⟨v127, rfl, ho0, hb⟩; refine ⟨_, rfl, ?_⟩; have n0_ := Aside0.mk (Kd.R_elder' (by (with_reducible repeat (first | apply Kd.R_alloc | apply Kd.R_drewN | apply Kd.R_drew)); exact HO123.out) (Kd.R_base ho0) hb); have n1_ := Aside0.mk (Kd.R_lower (Kd.R_new' ho0 (Kd.R_lt (by (with_reducible repeat (first | apply Kd.R_alloc | apply Kd.R_drewN | apply Kd.R_drew)); exact HO123.out))) (below_size (by repeat (first | (with_reducible first | exact HB.out | apply below_alloc | apply pw_below_drewN | apply below_drew1) | exact HB.out)))); have n2_ := Aside0.mk (below_step (by repeat (first | (with_reducible first | exact HB.out | apply below_alloc | apply pw_below_drewN | apply below_drew1) | exact HB.out)) hb); clear HO123; clear HB; have HO123 := n0_; have HO128 := n1_; have HB := n2_; clear n0_ n1_ n2_; (try clear hb); (try clear hb2); (try clear hk); (try clear hi); (try clear ho0); obtain ⟨Ao11, co11, eo11⟩ := Kd.R_slice HO123.out; subst eo11; have p129 : 0 ≤ (3 : Int) := (by omega); have q129 : 3 < (t119.length : Int) := of_decide_eq_true (by first | (with_reducible assumption) | assumption); obtain ⟨ad129, e129, hx129_0, hx129_1, hx129_2, hx129_3, hx129_4⟩ := at_T24 (Kd.R_reads' HO123.out).2.2 3 p129 q129; cases e129; (try simp only [show (3 : Int).toNat = 3 from rfl, Nat.reduceMul, Nat.reduceEqDiff, Go.Addr.add, ↓reduceIte] at hx129_0); (try simp only [show (3 : Int).toNat = 3 from rfl, Nat.reduceMul, Nat.reduceEqDiff, Go.Addr.add, ↓reduceIte] at hx129_1); (try simp only [show (3 : Int).toNat = 3 from rfl, Nat.reduceMul, Nat.reduceEqDiff, Go.Addr.add, ↓reduceIte] at hx129_2); (try simp only [show (3 : Int).toNat = 3 from rfl, Nat.reduceMul, Nat.reduceEqDiff, Go.Addr.add, ↓reduceIte] at hx129_3); (try simp only [show (3 : Int).toNat = 3 from rfl, Nat.reduceMul, Nat.reduceEqDiff, Go.Addr.add, ↓reduceIte] at hx129_4); have qi129 : (3 < t119.length) = True := eq_true (by omega); (try rw [show ((3 : Int)).toNat = 3 from rfl] at hx129_0); (try rw [show 3 * 5 = 15 from rfl] at hx129_0); (try rw [show ((3 : Int)).toNat = 3 from rfl] at hx129_1); (try rw [show 3 * 5 = 15 from rfl] at hx129_1); (try rw [show ((3 : Int)).toNat = 3 from rfl] at hx129_2); (try rw [show 3 * 5 = 15 from rfl] at hx129_2); (try rw [show ((3 : Int)).toNat = 3 from rfl] at hx129_3); (try rw [show 3 * 5 = 15 from rfl] at hx129_3); (try rw [show ((3 : Int)).toNat = 3 from rfl] at hx129_4); (try rw [show 3 * 5 = 15 from rfl] at hx129_4); replace p129 := eq_true p129; replace q129 := eq_true q129))
              go_ret
              exact ⟨by first | rfl | (simp [errW_none, errW_some] <;> rfl) | (simp [*, errW_none, errW_some] <;> rfl), by repeat (first | (with_reducible first | exact HB.out | apply below_alloc | apply pw_below_drewN | apply below_drew1) | exact HB.out)⟩
            · rw [if_neg c8] at H
              have c8b0 : (t125 == 1) = false := beq_eq_false_iff_ne.mpr c8
              have c8b1 : (t125 != 1) = true := bne_iff_ne.mpr c8
              obtain rfl := Option.some.inj H
              go_enter Try.func6, Try.ntmps6
              go_wp2_with (first | ((with_reducible refine gate_callee (f := 9) rfl ?_); refine goesL_ (some 8) rfl rfl Try.func9 (by kernel_rfl) rfl #[.string (⟨#[91, 49, 44, 32, 34, 97, 34, 93]⟩ : ByteArray)] rfl (by (try simp only [List.map_toArray, List.map_cons, List.map_nil]); first | done | rfl | (simp only [List.length_drop, List.length_take]; rfl)) ?_; (with_reducible refine (lex_Tokens.calls (⟨#[91, 49, 44, 32, 34, 97, 34, 93]⟩ : ByteArray) t119 t120 t121 _ A1.out).mono ?_); rintro e w12 ⟨v122, rfl, ho0, hb⟩; refine ⟨_, rfl, ?_⟩; have n0_ := Aside0.mk (Kd.R_lower ho0 (below_size (by repeat (first | (with_reducible first | exact HB.out | apply below_alloc | apply pw_below_drewN | apply below_drew1) | exact HB.out)))); have n1_ := Aside0.mk (below_step (by repeat (first | (with_reducible first | exact HB.out | apply below_alloc | apply pw_below_drewN | apply below_drew1) | exact HB.out)) hb); clear HB; have HO123 := n0_; have HB := n1_; clear n0_ n1_; (try clear hb); (try clear hb2); (try clear hk); (try clear hi); (try clear ho0)) | ((with_reducible refine gate_callee (f := 9) rfl ?_); refine goesL_ (some 13) rfl rfl Try.func9 (by kernel_rfl) rfl #[.string (⟨#[91, 48, 49]⟩ : ByteArray)] rfl (by (try simp only [List.map_toArray, List.map_cons, List.map_nil]); first | done | rfl | (simp only [List.length_drop, List.length_take]; rfl)) ?_; (with_reducible refine (lex_Tokens.calls (⟨#[91, 48, 49]⟩ : ByteArray) t124 t125 t126 _ A2.out).mono ?_); rintro e w13 ⟨v127, rfl, ho0, hb⟩; refine ⟨_, rfl, ?_⟩; have n0_ := Aside0.mk (Kd.R_elder' (by (with_reducible repeat (first | apply Kd.R_alloc | apply Kd.R_drewN | apply Kd.R_drew)); exact HO123.out) (Kd.R_base ho0) hb); have n1_ := Aside0.mk (Kd.R_lower (Kd.R_new' ho0 (Kd.R_lt (by (with_reducible repeat (first | apply Kd.R_alloc | apply Kd.R_drewN | apply Kd.R_drew)); exact HO123.out))) (below_size (by repeat (first | (with_reducible first | exact HB.out | apply below_alloc | apply pw_below_drewN | apply below_drew1) | exact HB.out)))); have n2_ := Aside0.mk (below_step (by repeat (first | (with_reducible first | exact HB.out | apply below_alloc | apply pw_below_drewN | apply below_drew1) | exact HB.out)) hb); clear HO123; clear HB; have HO123 := n0_; have HO128 := n1_; have HB := n2_; clear n0_ n1_ n2_; (try clear hb); (try clear hb2); (try clear hk); (try clear hi); (try clear ho0); obtain ⟨Ao14, co14, eo14⟩ := Kd.R_slice HO123.out; subst eo14; have p129 : 0 ≤ (3 : Int) := (by omega); have q129 : 3 < (t119.length : Int) := of_decide_eq_true (by first | (with_reducible assumption) | assumption); obtain ⟨ad129, e129, hx129_0, hx129_1, hx129_2, hx129_3, hx129_4⟩ := at_T24 (Kd.R_reads' HO123.out).2.2 3 p129 q129; cases e129; (try simp only [show (3 : Int).toNat = 3 from rfl, Nat.reduceMul, Nat.reduceEqDiff, Go.Addr.add, ↓reduceIte] at hx129_0); (try simp only [show (3 : Int).toNat = 3 from rfl, Nat.reduceMul, Nat.reduceEqDiff, Go.Addr.add, ↓reduceIte] at hx129_1); (try simp only [show (3 : Int).toNat = 3 from rfl, Nat.reduceMul, Nat.reduceEqDiff, Go.Addr.add, ↓reduceIte] at hx129_2); (try simp only [show (3 : Int).toNat = 3 from rfl, Nat.reduceMul, Nat.reduceEqDiff, Go.Addr.add, ↓reduceIte] at hx129_3); (try simp only [show (3 : Int).toNat = 3 from rfl, Nat.reduceMul, Nat.reduceEqDiff, Go.Addr.add, ↓reduceIte] at hx129_4); have qi129 : (3 < t119.length) = True := eq_true (by omega); (try rw [show ((3 : Int)).toNat = 3 from rfl] at hx129_0); (try rw [show 3 * 5 = 15 from rfl] at hx129_0); (try rw [show ((3 : Int)).toNat = 3 from rfl] at hx129_1); (try rw [show 3 * 5 = 15 from rfl] at hx129_1); (try rw [show ((3 : Int)).toNat = 3 from rfl] at hx129_2); (try rw [show 3 * 5 = 15 from rfl] at hx129_2); (try rw [show ((3 : Int)).toNat = 3 from rfl] at hx129_3); (try rw [show 3 * 5 = 15 from rfl] at hx129_3); (try rw [show ((3 : Int)).toNat = 3 from rfl] at hx129_4); (try rw [show 3 * 5 = 15 from rfl] at hx129_4); replace p129 := eq_true p129; replace q129 := eq_true q129))
              go_ret
              exact ⟨by first | rfl | (simp [errW_none, errW_some] <;> rfl) | (simp [*, errW_none, errW_some] <;> rfl), by repeat (first | (with_reducible first | exact HB.out | apply below_alloc | apply pw_below_drewN | apply below_drew1) | exact HB.out)⟩
          · rw [if_neg c7] at H
            have c7b0 : (t121 == 0) = false := beq_eq_false_iff_ne.mpr c7
            have c7b1 : (t121 != 0) = true := bne_iff_ne.mpr c7
            obtain rfl := Option.some.inj H
            go_enter Try.func6, Try.ntmps6
            go_wp2_with (first | ((with_reducible refine gate_callee (f := 9) rfl ?_); refine goesL_ (some 8) rfl rfl Try.func9 (by kernel_rfl) rfl #[.string (⟨#[91, 49, 44, 32, 34, 97, 34, 93]⟩ : ByteArray)] rfl (by (try simp only [List.map_toArray, List.map_cons, List.map_nil]); first | done | rfl | (simp only [List.length_drop, List.length_take]; rfl)) ?_; (with_reducible refine (lex_Tokens.calls (⟨#[91, 49, 44, 32, 34, 97, 34, 93]⟩ : ByteArray) t119 t120 t121 _ A1.out).mono ?_); rintro e w15 ⟨v122, rfl, ho0, hb⟩; refine ⟨_, rfl, ?_⟩; have n0_ := Aside0.mk (Kd.R_lower ho0 (below_size (by repeat (first | (with_reducible first | exact HB.out | apply below_alloc | apply pw_below_drewN | apply below_drew1) | exact HB.out)))); have n1_ := Aside0.mk (below_step (by repeat (first | (with_reducible first | exact HB.out | apply below_alloc | apply pw_below_drewN | apply below_drew1) | exact HB.out)) hb); clear HB; have HO123 := n0_; have HB := n1_; clear n0_ n1_; (try clear hb); (try clear hb2); (try clear hk); (try clear hi); (try clear ho0)) | ((with_reducible refine gate_callee (f := 9) rfl ?_); refine goesL_ (some 13) rfl rfl Try.func9 (by kernel_rfl) rfl #[.string (⟨#[91, 48, 49]⟩ : ByteArray)] rfl (by (try simp only [List.map_toArray, List.map_cons, List.map_nil]); first | done | rfl | (simp only [List.length_drop, List.length_take]; rfl)) ?_; (with_reducible refine (lex_Tokens.calls (⟨#[91, 48, 49]⟩ : ByteArray) t124 t125 t126 _ A2.out).mono ?_); rintro e w16 ⟨v127, rfl, ho0, hb⟩; refine ⟨_, rfl, ?_⟩; have n0_ := Aside0.mk (Kd.R_elder' (by (with_reducible repeat (first | apply Kd.R_alloc | apply Kd.R_drewN | apply Kd.R_drew)); exact HO123.out) (Kd.R_base ho0) hb); have n1_ := Aside0.mk (Kd.R_lower (Kd.R_new' ho0 (Kd.R_lt (by (with_reducible repeat (first | apply Kd.R_alloc | apply Kd.R_drewN | apply Kd.R_drew)); exact HO123.out))) (below_size (by repeat (first | (with_reducible first | exact HB.out | apply below_alloc | apply pw_below_drewN | apply below_drew1) | exact HB.out)))); have n2_ := Aside0.mk (below_step (by repeat (first | (with_reducible first | exact HB.out | apply below_alloc | apply pw_below_drewN | apply below_drew1) | exact HB.out)) hb); clear HO123; clear HB; have HO123 := n0_; have HO128 := n1_; have HB := n2_; clear n0_ n1_ n2_; (try clear hb); (try clear hb2); (try clear hk); (try clear hi); (try clear ho0); obtain ⟨Ao17, co17, eo17⟩ := Kd.R_slice HO123.out; subst eo17; have p129 : 0 ≤ (3 : Int) := (by omega); have q129 : 3 < (t119.length : Int) := of_decide_eq_true (by first | (with_reducible assumption) | assumption); obtain ⟨ad129, e129, hx129_0, hx129_1, hx129_2, hx129_3, hx129_4⟩ := at_T24 (Kd.R_reads' HO123.out).2.2 3 p129 q129; cases e129; (try simp only [show (3 : Int).toNat = 3 from rfl, Nat.reduceMul, Nat.reduceEqDiff, Go.Addr.add, ↓reduceIte] at hx129_0); (try simp only [show (3 : Int).toNat = 3 from rfl, Nat.reduceMul, Nat.reduceEqDiff, Go.Addr.add, ↓reduceIte] at hx129_1); (try simp only [show (3 : Int).toNat = 3 from rfl, Nat.reduceMul, Nat.reduceEqDiff, Go.Addr.add, ↓reduceIte] at hx129_2); (try simp only [show (3 : Int).toNat = 3 from rfl, Nat.reduceMul, Nat.reduceEqDiff, Go.Addr.add, ↓reduceIte] at hx129_3); (try simp only [show (3 : Int).toNat = 3 from rfl, Nat.reduceMul, Nat.reduceEqDiff, Go.Addr.add, ↓reduceIte] at hx129_4); have qi129 : (3 < t119.length) = True := eq_true (by omega); (try rw [show ((3 : Int)).toNat = 3 from rfl] at hx129_0); (try rw [show 3 * 5 = 15 from rfl] at hx129_0); (try rw [show ((3 : Int)).toNat = 3 from rfl] at hx129_1); (try rw [show 3 * 5 = 15 from rfl] at hx129_1); (try rw [show ((3 : Int)).toNat = 3 from rfl] at hx129_2); (try rw [show 3 * 5 = 15 from rfl] at hx129_2); (try rw [show ((3 : Int)).toNat = 3 from rfl] at hx129_3); (try rw [show 3 * 5 = 15 from rfl] at hx129_3); (try rw [show ((3 : Int)).toNat = 3 from rfl] at hx129_4); (try rw [show 3 * 5 = 15 from rfl] at hx129_4); replace p129 := eq_true p129; replace q129 := eq_true q129))
            go_ret
            exact ⟨by first | rfl | (simp [errW_none, errW_some] <;> rfl) | (simp [*, errW_none, errW_some] <;> rfl), by repeat (first | (with_reducible first | exact HB.out | apply below_alloc | apply pw_below_drewN | apply below_drew1) | exact HB.out)⟩
        · rw [if_neg c6] at H
          have c6b0 : (t120 == 0) = false := beq_eq_false_iff_ne.mpr c6
          have c6b1 : (t120 != 0) = true := bne_iff_ne.mpr c6
          obtain rfl := Option.some.inj H
          go_enter Try.func6, Try.ntmps6
          go_wp2_with (first | ((with_reducible refine gate_callee (f := 9) rfl ?_); refine goesL_ (some 8) rfl rfl Try.func9 (by kernel_rfl) rfl #[.string (⟨#[91, 49, 44, 32, 34, 97, 34, 93]⟩ : ByteArray)] rfl (by (try simp only [List.map_toArray, List.map_cons, List.map_nil]); first | done | rfl | (simp only [List.length_drop, List.length_take]; rfl)) ?_; (with_reducible refine (lex_Tokens.calls (⟨#[91, 49, 44, 32, 34, 97, 34, 93]⟩ : ByteArray) t119 t120 t121 _ A1.out).mono ?_); rintro e w18 ⟨v122, rfl, ho0, hb⟩; refine ⟨_, rfl, ?_⟩; have n0_ := Aside0.mk (Kd.R_lower ho0 (below_size (by repeat (first | (with_reducible first | exact HB.out | apply below_alloc | apply pw_below_drewN | apply below_drew1) | exact HB.out)))); have n1_ := Aside0.mk (below_step (by repeat (first | (with_reducible first | exact HB.out | apply below_alloc | apply pw_below_drewN | apply below_drew1) | exact HB.out)) hb); clear HB; have HO123 := n0_; have HB := n1_; clear n0_ n1_; (try clear hb); (try clear hb2); (try clear hk); (try clear hi); (try clear ho0)) | ((with_reducible refine gate_callee (f := 9) rfl ?_); refine goesL_ (some 13) rfl rfl Try.func9 (by kernel_rfl) rfl #[.string (⟨#[91, 48, 49]⟩ : ByteArray)] rfl (by (try simp only [List.map_toArray, List.map_cons, List.map_nil]); first | done | rfl | (simp only [List.length_drop, List.length_take]; rfl)) ?_; (with_reducible refine (lex_Tokens.calls (⟨#[91, 48, 49]⟩ : ByteArray) t124 t125 t126 _ A2.out).mono ?_); rintro e w19 ⟨v127, rfl, ho0, hb⟩; refine ⟨_, rfl, ?_⟩; have n0_ := Aside0.mk (Kd.R_elder' (by (with_reducible repeat (first | apply Kd.R_alloc | apply Kd.R_drewN | apply Kd.R_drew)); exact HO123.out) (Kd.R_base ho0) hb); have n1_ := Aside0.mk (Kd.R_lower (Kd.R_new' ho0 (Kd.R_lt (by (with_reducible repeat (first | apply Kd.R_alloc | apply Kd.R_drewN | apply Kd.R_drew)); exact HO123.out))) (below_size (by repeat (first | (with_reducible first | exact HB.out | apply below_alloc | apply pw_below_drewN | apply below_drew1) | exact HB.out)))); have n2_ := Aside0.mk (below_step (by repeat (first | (with_reducible first | exact HB.out | apply below_alloc | apply pw_below_drewN | apply below_drew1) | exact HB.out)) hb); clear HO123; clear HB; have HO123 := n0_; have HO128 := n1_; have HB := n2_; clear n0_ n1_ n2_; (try clear hb); (try clear hb2); (try clear hk); (try clear hi); (try clear ho0); obtain ⟨Ao20, co20, eo20⟩ := Kd.R_slice HO123.out; subst eo20; have p129 : 0 ≤ (3 : Int) := (by omega); have q129 : 3 < (t119.length : Int) := of_decide_eq_true (by first | (with_reducible assumption) | assumption); obtain ⟨ad129, e129, hx129_0, hx129_1, hx129_2, hx129_3, hx129_4⟩ := at_T24 (Kd.R_reads' HO123.out).2.2 3 p129 q129; cases e129; (try simp only [show (3 : Int).toNat = 3 from rfl, Nat.reduceMul, Nat.reduceEqDiff, Go.Addr.add, ↓reduceIte] at hx129_0); (try simp only [show (3 : Int).toNat = 3 from rfl, Nat.reduceMul, Nat.reduceEqDiff, Go.Addr.add, ↓reduceIte] at hx129_1); (try simp only [show (3 : Int).toNat = 3 from rfl, Nat.reduceMul, Nat.reduceEqDiff, Go.Addr.add, ↓reduceIte] at hx129_2); (try simp only [show (3 : Int).toNat = 3 from rfl, Nat.reduceMul, Nat.reduceEqDiff, Go.Addr.add, ↓reduceIte] at hx129_3); (try simp only [show (3 : Int).toNat = 3 from rfl, Nat.reduceMul, Nat.reduceEqDiff, Go.Addr.add, ↓reduceIte] at hx129_4); have qi129 : (3 < t119.length) = True := eq_true (by omega); (try rw [show ((3 : Int)).toNat = 3 from rfl] at hx129_0); (try rw [show 3 * 5 = 15 from rfl] at hx129_0); (try rw [show ((3 : Int)).toNat = 3 from rfl] at hx129_1); (try rw [show 3 * 5 = 15 from rfl] at hx129_1); (try rw [show ((3 : Int)).toNat = 3 from rfl] at hx129_2); (try rw [show 3 * 5 = 15 from rfl] at hx129_2); (try rw [show ((3 : Int)).toNat = 3 from rfl] at hx129_3); (try rw [show 3 * 5 = 15 from rfl] at hx129_3); (try rw [show ((3 : Int)).toNat = 3 from rfl] at hx129_4); (try rw [show 3 * 5 = 15 from rfl] at hx129_4); replace p129 := eq_true p129; replace q129 := eq_true q129))
          go_ret
          exact ⟨by first | rfl | (simp [errW_none, errW_some] <;> rfl) | (simp [*, errW_none, errW_some] <;> rfl), by repeat (first | (with_reducible first | exact HB.out | apply below_alloc | apply pw_below_drewN | apply below_drew1) | exact HB.out)⟩
      · rw [if_neg c5] at H
        have c5b0 : (((rd_T24 t119 3).f4).toList == ([97] : List UInt8)) = false := beq_eq_false_iff_ne.mpr c5
        have c5b1 : (((rd_T24 t119 3).f4).toList != ([97] : List UInt8)) = true := bne_iff_ne.mpr c5
        obtain rfl := Option.some.inj H
        go_enter Try.func6, Try.ntmps6
        go_wp2_with (first | ((with_reducible refine gate_callee (f := 9) rfl ?_); refine goesL_ (some 8) rfl rfl Try.func9 (by kernel_rfl) rfl #[.string (⟨#[91, 49, 44, 32, 34, 97, 34, 93]⟩ : ByteArray)] rfl (by (try simp only [List.map_toArray, List.map_cons, List.map_nil]); first | done | rfl | (simp only [List.length_drop, List.length_take]; rfl)) ?_; (with_reducible refine (lex_Tokens.calls (⟨#[91, 49, 44, 32, 34, 97, 34, 93]⟩ : ByteArray) t119 t120 t121 _ A1.out).mono ?_); rintro e w21 ⟨v122, rfl, ho0, hb⟩; refine ⟨_, rfl, ?_⟩; have n0_ := Aside0.mk (Kd.R_lower ho0 (below_size (by repeat (first | (with_reducible first | exact HB.out | apply below_alloc | apply pw_below_drewN | apply below_drew1) | exact HB.out)))); have n1_ := Aside0.mk (below_step (by repeat (first | (with_reducible first | exact HB.out | apply below_alloc | apply pw_below_drewN | apply below_drew1) | exact HB.out)) hb); clear HB; have HO123 := n0_; have HB := n1_; clear n0_ n1_; (try clear hb); (try clear hb2); (try clear hk); (try clear hi); (try clear ho0)) | ((with_reducible refine gate_callee (f := 9) rfl ?_); refine goesL_ (some 13) rfl rfl Try.func9 (by kernel_rfl) rfl #[.string (⟨#[91, 48, 49]⟩ : ByteArray)] rfl (by (try simp only [List.map_toArray, List.map_cons, List.map_nil]); first | done | rfl | (simp only [List.length_drop, List.length_take]; rfl)) ?_; (with_reducible refine (lex_Tokens.calls (⟨#[91, 48, 49]⟩ : ByteArray) t124 t125 t126 _ A2.out).mono ?_); rintro e w22 ⟨v127, rfl, ho0, hb⟩; refine ⟨_, rfl, ?_⟩; have n0_ := Aside0.mk (Kd.R_elder' (by (with_reducible repeat (first | apply Kd.R_alloc | apply Kd.R_drewN | apply Kd.R_drew)); exact HO123.out) (Kd.R_base ho0) hb); have n1_ := Aside0.mk (Kd.R_lower (Kd.R_new' ho0 (Kd.R_lt (by (with_reducible repeat (first | apply Kd.R_alloc | apply Kd.R_drewN | apply Kd.R_drew)); exact HO123.out))) (below_size (by repeat (first | (with_reducible first | exact HB.out | apply below_alloc | apply pw_below_drewN | apply below_drew1) | exact HB.out)))); have n2_ := Aside0.mk (below_step (by repeat (first | (with_reducible first | exact HB.out | apply below_alloc | apply pw_below_drewN | apply below_drew1) | exact HB.out)) hb); clear HO123; clear HB; have HO123 := n0_; have HO128 := n1_; have HB := n2_; clear n0_ n1_ n2_; (try clear hb); (try clear hb2); (try clear hk); (try clear hi); (try clear ho0); obtain ⟨Ao23, co23, eo23⟩ := Kd.R_slice HO123.out; subst eo23; have p129 : 0 ≤ (3 : Int) := (by omega); have q129 : 3 < (t119.length : Int) := of_decide_eq_true (by first | (with_reducible assumption) | assumption); obtain ⟨ad129, e129, hx129_0, hx129_1, hx129_2, hx129_3, hx129_4⟩ := at_T24 (Kd.R_reads' HO123.out).2.2 3 p129 q129; cases e129; (try simp only [show (3 : Int).toNat = 3 from rfl, Nat.reduceMul, Nat.reduceEqDiff, Go.Addr.add, ↓reduceIte] at hx129_0); (try simp only [show (3 : Int).toNat = 3 from rfl, Nat.reduceMul, Nat.reduceEqDiff, Go.Addr.add, ↓reduceIte] at hx129_1); (try simp only [show (3 : Int).toNat = 3 from rfl, Nat.reduceMul, Nat.reduceEqDiff, Go.Addr.add, ↓reduceIte] at hx129_2); (try simp only [show (3 : Int).toNat = 3 from rfl, Nat.reduceMul, Nat.reduceEqDiff, Go.Addr.add, ↓reduceIte] at hx129_3); (try simp only [show (3 : Int).toNat = 3 from rfl, Nat.reduceMul, Nat.reduceEqDiff, Go.Addr.add, ↓reduceIte] at hx129_4); have qi129 : (3 < t119.length) = True := eq_true (by omega); (try rw [show ((3 : Int)).toNat = 3 from rfl] at hx129_0); (try rw [show 3 * 5 = 15 from rfl] at hx129_0); (try rw [show ((3 : Int)).toNat = 3 from rfl] at hx129_1); (try rw [show 3 * 5 = 15 from rfl] at hx129_1); (try rw [show ((3 : Int)).toNat = 3 from rfl] at hx129_2); (try rw [show 3 * 5 = 15 from rfl] at hx129_2); (try rw [show ((3 : Int)).toNat = 3 from rfl] at hx129_3); (try rw [show 3 * 5 = 15 from rfl] at hx129_3); (try rw [show ((3 : Int)).toNat = 3 from rfl] at hx129_4); (try rw [show 3 * 5 = 15 from rfl] at hx129_4); replace p129 := eq_true p129; replace q129 := eq_true q129))
        go_ret
        exact ⟨by first | rfl | (simp [errW_none, errW_some] <;> rfl) | (simp [*, errW_none, errW_some] <;> rfl), by repeat (first | (with_reducible first | exact HB.out | apply below_alloc | apply pw_below_drewN | apply below_drew1) | exact HB.out)⟩
    · rw [if_neg c4] at H
      exact absurd H (by simp)
  · rw [if_neg c3] at H
    have c3b0 : ((t119.length : Int) == 6) = false := beq_eq_false_iff_ne.mpr c3
    have c3b1 : ((t119.length : Int) != 6) = true := bne_iff_ne.mpr c3
    obtain rfl := Option.some.inj H
    go_enter Try.func6, Try.ntmps6
    go_wp2_with (first | ((with_reducible refine gate_callee (f := 9) rfl ?_); refine goesL_ (some 8) rfl rfl Try.func9 (by kernel_rfl) rfl #[.string (⟨#[91, 49, 44, 32, 34, 97, 34, 93]⟩ : ByteArray)] rfl (by (try simp only [List.map_toArray, List.map_cons, List.map_nil]); first | done | rfl | (simp only [List.length_drop, List.length_take]; rfl)) ?_; (with_reducible refine (lex_Tokens.calls (⟨#[91, 49, 44, 32, 34, 97, 34, 93]⟩ : ByteArray) t119 t120 t121 _ A1.out).mono ?_); rintro e w24 ⟨v122, rfl, ho0, hb⟩; refine ⟨_, rfl, ?_⟩; have n0_ := Aside0.mk (Kd.R_lower ho0 (below_size (by repeat (first | (with_reducible first | exact HB.out | apply below_alloc | apply pw_below_drewN | apply below_drew1) | exact HB.out)))); have n1_ := Aside0.mk (below_step (by repeat (first | (with_reducible first | exact HB.out | apply below_alloc | apply pw_below_drewN | apply below_drew1) | exact HB.out)) hb); clear HB; have HO123 := n0_; have HB := n1_; clear n0_ n1_; (try clear hb); (try clear hb2); (try clear hk); (try clear hi); (try clear ho0)) | ((with_reducible refine gate_callee (f := 9) rfl ?_); refine goesL_ (some 13) rfl rfl Try.func9 (by kernel_rfl) rfl #[.string (⟨#[91, 48, 49]⟩ : ByteArray)] rfl (by (try simp only [List.map_toArray, List.map_cons, List.map_nil]); first | done | rfl | (simp only [List.length_drop, List.length_take]; rfl)) ?_; (with_reducible refine (lex_Tokens.calls (⟨#[91, 48, 49]⟩ : ByteArray) t124 t125 t126 _ A2.out).mono ?_); rintro e w25 ⟨v127, rfl, ho0, hb⟩; refine ⟨_, rfl, ?_⟩; have n0_ := Aside0.mk (Kd.R_elder' (by (with_reducible repeat (first | apply Kd.R_alloc | apply Kd.R_drewN | apply Kd.R_drew)); exact HO123.out) (Kd.R_base ho0) hb); have n1_ := Aside0.mk (Kd.R_lower (Kd.R_new' ho0 (Kd.R_lt (by (with_reducible repeat (first | apply Kd.R_alloc | apply Kd.R_drewN | apply Kd.R_drew)); exact HO123.out))) (below_size (by repeat (first | (with_reducible first | exact HB.out | apply below_alloc | apply pw_below_drewN | apply below_drew1) | exact HB.out)))); have n2_ := Aside0.mk (below_step (by repeat (first | (with_reducible first | exact HB.out | apply below_alloc | apply pw_below_drewN | apply below_drew1) | exact HB.out)) hb); clear HO123; clear HB; have HO123 := n0_; have HO128 := n1_; have HB := n2_; clear n0_ n1_ n2_; (try clear hb); (try clear hb2); (try clear hk); (try clear hi); (try clear ho0); obtain ⟨Ao26, co26, eo26⟩ := Kd.R_slice HO123.out; subst eo26))
    go_ret
    exact ⟨by first | rfl | (simp [errW_none, errW_some] <;> rfl) | (simp [*, errW_none, errW_some] <;> rfl), by repeat (first | (with_reducible first | exact HB.out | apply below_alloc | apply pw_below_drewN | apply below_drew1) | exact HB.out)⟩
end Go.Proofs.Ytjdgjifacdnkgaa.X
end
section
namespace Go.Proofs.Ytjdgjifacdnkgaa.X
open Go.RowKit Go.Shelf Go.Proofs.YtjdgjifacdnkgaaW.PrintWords
attribute [local go_sem] Oper.semAt_some
set_option linter.unusedVariables false
set_option linter.unusedSimpArgs false
theorem nil_C {w : World} : Kd.C k24 w none ([] : List S24).length [] := ⟨rfl, by simp, fun h => by simp at h⟩
theorem keepsO_drew {W W' : World} (h : KeepsOthers W W') : KeepsOthers W W'.drew := h.trans (keeps_below (below_drew (Below.refl _ _)))
theorem lives06f : sealringlaw06_lives.f = some true := by kernel_rfl
theorem lives_in (n : Nat) (w : World) : CallsIn Fence.wide n Try.prog 6 #[] w fun e w' => e = .returned (.bool true) ∧ Below w.heap.size w w' := callsIn_wide.2 (sealringlaw06_lives.calls true w lives06f)
theorem rTokens_go (t : ByteArray) (ht : t.size ≤ 300) : ∀ (q : Nat) (a : Int) (acc xs : List S24) (f en : Int), lexL t q a = some (xs, f, en) → acc.length + xs.length ≤ 1000 → Ev (fun k => sealringref06_Tokens.l0 k t acc a) (acc ++ xs, f, en)
  | 0, a, acc, xs, f, en, h, hl => by simp [lexL] at h
  | q + 1, a, acc, xs, f, en, h, hl => by
    refine Ev.step (fun k => by rw [sealringref06_Tokens.l0]) ?_
    refine Ev.bind (f := fun k bt193 => if bt193.2.2.2.2.2 = 0 then (if acc.length < 2932031007402 then ((some (acc ++ [(⟨bt193.1, bt193.2.1, bt193.2.2.1, bt193.2.2.2.1, bt193.2.2.2.2.1⟩ : S24)] : List S24)).bind fun y200 => (if bt193.1 = 12 then (some (y200, 0, 0)) else (sealringref06_Tokens.l0 k t y200 bt193.2.2.1))) else (none)) else (some (acc, bt193.2.1, bt193.2.2.2.2.2))) (rLexNext_ev t (by omega) a) ?_
    unfold lexL at h
    cases hN : nextP t a with
    | mk kd y =>
    obtain ⟨f', b, nn, s, e⟩ := y
    rw [hN] at h
    simp only at h ⊢
    by_cases c1 : e = 0
    · subst c1
      rw [if_pos rfl] at h
      by_cases c2 : kd = 12
      · rw [if_pos c2] at h
        simp only [Option.some.injEq, Prod.mk.injEq] at h
        obtain ⟨rfl, rfl, rfl⟩ := h
        refine evPos rfl (evPos (by omega) ?_)
        simp only [Option.bind_some]
        exact evPos c2 (Ev.now _)
      · rw [if_neg c2] at h
        obtain ⟨⟨ys, f2, en'⟩, H2, e2⟩ := Option.map_eq_some_iff.1 h
        simp only [Prod.mk.injEq] at e2
        obtain ⟨rfl, rfl, rfl⟩ := e2
        refine evPos rfl (evPos (by simp at hl; omega) ?_)
        simp only [Option.bind_some]
        refine evNeg c2 ?_
        have := rTokens_go t ht q b (acc ++ [⟨kd, f', b, nn, s⟩]) ys f2 en' H2 (by simp at hl ⊢; omega)
        simpa using this
    · rw [if_neg c1] at h
      simp only [Option.some.injEq, Prod.mk.injEq] at h
      obtain ⟨rfl, rfl, rfl⟩ := h
      refine evNeg c1 ?_
      simpa using Ev.now (acc, f', e)
theorem rSame_go (xs : List S24) (hl : xs.length ≤ 1000) : ∀ (n i : Nat), i + n = xs.length → Ev (fun k => sealringref06_Same.l0 k xs xs (i : Int)) true
  | 0, i, h => by
    refine Ev.step (fun k => by rw [sealringref06_Same.l0]) (evNeg (by omega) (Ev.now _))
  | n + 1, i, h => by
    refine Ev.step (fun k => by rw [sealringref06_Same.l0]) (evPos (by omega) (evPos (by omega) (evPos (by omega) (evNeg (by simp) ?_))))
    rw [w64s i (by omega)]
    exact rSame_go xs hl n (i + 1) (by omega)
theorem rSame_ev (xs : List S24) (hl : xs.length ≤ 1000) : Ev (fun k => sealringref06_Same.f k xs xs) true := by
  unfold sealringref06_Same.f
  exact evPos rfl (rSame_go xs hl xs.length 0 (by omega))
structure TI (w2 : World) (v : Value) (m : Nat) (W : World) : Prop where
  wt : W.heap[w2.heap.size]? = some (.cells #[v] 31 (0, 0))
  n : W.heap[w2.heap.size + 2]? = some (.cells #[.int .i64 (m : Int)] 3 (0, 0))
  B : Below w2.heap.size w2 W
  z : w2.heap.size + 3 ≤ W.heap.size
theorem TI.own {β : Type} (w2 : World) (v : Value) (g : β → Nat) (B : Nat) (hB : w2.heap.size + 3 ≤ B) : OwnFrom B (fun (s : β) W => TI w2 v (g s) W) := by
  intro pre W W' row h hg hr
  have far : ∀ (b : Nat) (cs : Array Value) (t : TypeId), W.heap[b]? = some (.cells cs t (0, 0)) → W'.heap[b]? = some (.cells cs t (0, 0)) := fun b cs t hbk =>
    (hg.block b (blk_lt hbk) (fun e => by obtain ⟨_, o, ho, hc⟩ := hr b e.symm; rw [hbk] at ho; cases ho; simp [Obj.isCells] at hc)).trans hbk
  exact ⟨far _ _ _ h.wt, far _ _ _ h.n, h.B.grown hg h.B.size (fun k e => by have := (hr k e).1; omega), by have := hg.size; have := h.z; omega⟩
theorem TI.step {w2 W W1 : World} {v : Value} {m : Nat} (h : TI w2 v m W) (hb : Below W.heap.size W W1) : TI w2 v m W1 :=
  ⟨(hb.block _ (blk_lt h.wt)).trans h.wt, (hb.block _ (blk_lt h.n)).trans h.n, below_then h.B h.B.size hb, by have := hb.size; have := h.z; omega⟩
theorem TI.set {w2 W : World} {v : Value} {m : Nat} (h : TI w2 v m W) (m' : Nat) : TI w2 v m' (W.setCell ⟨w2.heap.size + 2, 0, none⟩ (.int .i64 (m' : Int))) :=
  ⟨(Below.heap_setCell _ _ _ _ (by simp)).trans h.wt, blk_put h.n 0 _ rfl, below_set h.B (by simp), by have := h.z; simp [World.setCell]; omega⟩
theorem TI.start (w2 : World) (v : Value) (t : ByteArray) : TI w2 v 0 (((w2.alloc (.cells #[v] 31)).alloc (.cells #[.string t] 9)).alloc (.cells #[.int .i64 0] 3)) := by
  have h1 := blk_new w2 (.cells #[v] 31)
  have h2 := blk_new ((w2.alloc (.cells #[v] 31)).alloc (.cells #[.string t] 9)) (.cells #[.int .i64 0] 3)
  simp only [World.size_alloc] at h2
  refine ⟨?_, h2, (((Below.refl _ w2).alloc (Nat.le_refl _) _).alloc (by simp) _).alloc (by simp; omega) _, by simp⟩
  rw [Below.heap_alloc _ _ _ (by simp; omega), Below.heap_alloc _ _ _ (by simp)]; exact h1
theorem keepTok_n {w2 W : World} {v u : Value} {m : Nat} (h : TI w2 v m W) (x : Value) : KeepTok (w2.heap.size + 1) u W (W.setCell ⟨w2.heap.size + 2, 0, none⟩ x) := by
  refine ⟨fun hc => ?_, fun b cs hb h1 h2 => ?_⟩
  · rw [World.cell?_setCell_other _ _ _ _ (fun e => by have := congrArg Addr.block e; simp at this)]; exact hc
  · rw [Below.heap_setCell _ _ _ _ (fun e => by simp at e; subst e; rw [h.n] at h1; cases h1)]; exact h1
theorem ti_fin {w2 W : World} {v u : Value} {m : Nat} (h : TI w2 v m W) : KeepsFrom (w2.heap.size + 3) W ((W.setCell ⟨w2.heap.size + 1 + 1, 0, none⟩ (.int .i64 ((m : Int) + 1))).drew) ∧
    KeepTok (w2.heap.size + 1) u W ((W.setCell ⟨w2.heap.size + 1 + 1, 0, none⟩ (.int .i64 ((m : Int) + 1))).drew) ∧ TI w2 v (m + 1) ((W.setCell ⟨w2.heap.size + 1 + 1, 0, none⟩ (.int .i64 ((m : Int) + 1))).drew) :=
  ⟨(keepsO_drew (KeepsOthers.setCell _ _ _)).from _, keepTok_t (keepTok_n h _) (keepTok_below (below_drew (Below.refl _ _))), (h.set (m + 1)).step (below_drew (Below.refl _ _))⟩
theorem tok_ne {x y : S24} (h : x ≠ y) (W : World) : (binOp BinOp.neq 24 (.agg #[.int .i64 x.f0, .int .i64 x.f1, .int .i64 x.f2, .int .i64 x.f3, .string x.f4]) (.agg #[.int .i64 y.f0, .int .i64 y.f1, .int .i64 y.f2, .int .i64 y.f3, .string y.f4])).run Try.prog W = .ok (.bool true) W := by
  have hb : (x.f0 == y.f0 && (x.f1 == y.f1 && (x.f2 == y.f2 && (x.f3 == y.f3 && (x.f4.toList == y.f4.toList))))) = false := by
    rw [Bool.eq_false_iff]
    intro e
    simp only [Bool.and_eq_true, beq_iff_eq] at e
    apply h
    obtain ⟨e0, e1, e2, e3, e4⟩ := e
    have e5 : x.f4 = y.f4 := by
      rw [toList_d, toList_d] at e4
      exact ByteArray.ext (Array.toList_inj.1 e4)
    cases x; cases y
    simp only at e0 e1 e2 e3 e5
    subst e0 e1 e2 e3 e5
    rfl
  rw [run_neq_struct, eqA24 9998]
  rw [hb]
  rfl
structure ULs (w : World) (most : Int) (b : Bool) (W : World) : Prop where
  m : W.cell? ⟨w.heap.size, 0, none⟩ = some (.int .i64 most)
  c : W.cell? ⟨w.heap.size + 1, 0, none⟩ = some (.bool b)
  f : W.frozen? ⟨w.heap.size + 1, 0, none⟩ = false
  B : Below w.heap.size w W
  z : w.heap.size + 2 ≤ W.heap.size
theorem ULs.start (w : World) (most : Int) (t u : TypeId) : ULs w most false ((w.alloc (.cells #[.int .i64 most] t)).alloc (.cells #[.bool false] u)) := by
  have h1 := boxv w (.int .i64 most) t
  have h2 := boxv (w.alloc (.cells #[.int .i64 most] t)) (.bool false) u
  rw [World.size_alloc] at h2
  exact ⟨boxv_cell _ h1.1, h2.1, h2.2, ((Below.refl _ w).alloc (Nat.le_refl _) _).alloc (by simp) _, by simp⟩
theorem ULs.step {w W w1 : World} {most : Int} {b : Bool} (h : ULs w most b W) (hb : Below W.heap.size W w1) : ULs w most b w1 :=
  ⟨(hb.cell (p := ⟨w.heap.size, 0, none⟩) (by have := h.z; show w.heap.size < _; omega)).trans h.m, (hb.cell (p := ⟨w.heap.size + 1, 0, none⟩) (by have := h.z; show w.heap.size + 1 < _; omega)).trans h.c,
    (hb.frozen (p := ⟨w.heap.size + 1, 0, none⟩) (by have := h.z; show w.heap.size + 1 < _; omega)).trans h.f, h.B.trans (hb.mono (by have := h.z; omega)), by have := h.z; have := hb.size; omega⟩
theorem ULs.set {w W : World} {most : Int} {b : Bool} (h : ULs w most b W) (b' : Bool) : ULs w most b' (W.setCell ⟨w.heap.size + 1, 0, none⟩ (.bool b')) :=
  ⟨(World.cell?_setCell_other _ _ _ _ (fun e => by have := congrArg Addr.block e; simp at this)).trans h.m, World.cell?_setCell_same' _ _ _ (by rw [h.c]; rfl), by rw [World.frozen?_setCell]; exact h.f, h.B.setCell (p := ⟨w.heap.size + 1, 0, none⟩) (by simp) _, by have := h.z; simp [World.setCell]; omega⟩
theorem ULs.far {w W : World} {most : Int} {b : Bool} (h : ULs w most b W) (p : Addr) (hp : w.heap.size + 2 ≤ p.block) (u : Value) : ULs w most b (W.setCell p u) :=
  ⟨(World.cell?_setCell_other _ _ _ _ (fun e => by have := congrArg Addr.block e; simp at this; omega)).trans h.m, (World.cell?_setCell_other _ _ _ _ (fun e => by have := congrArg Addr.block e; simp at this; omega)).trans h.c,
    by rw [World.frozen?_setCell]; exact h.f, h.B.setCell (p := p) (by omega) _, by have := h.z; simp [World.setCell]; omega⟩
set_option maxRecDepth 100000 in
set_option maxHeartbeats 4000000 in
theorem LexTokens_long (t : ByteArray) (most : Int) (w : World) (hs : t.size ≤ 140737488351232) (c1 : (t.size : Int) > 300) :
    Calls Try.prog 4 #[.string t, .int .i64 most] w fun e w' => e = .returned (.bool true) ∧ Below w.heap.size w w' := by
  refine (callsIn_wide (n := 4)).1 ?_
  refine callsIn_of_wp_marks Try.func4 rfl trivial ?_ rfl
  simp only [Try.ntmps4, List.size_toArray, List.length_cons, List.length_nil, Nat.reduceAdd, Nat.reduceSub, Array.replicate_succ, Array.replicate_zero, List.push_toArray, List.append_toArray, List.nil_append, List.cons_append]
  have c1' : decide ((t.size : Int) > 300) = true := decide_eq_true c1
  have hU0 := ULs.start w most 3 4
  gi_wp2_with (refine ⟨trivial, ?_⟩; gi_at_call 6; refine (lives_in _ _).mono ?_; rintro e w1 ⟨rfl, hb⟩; have hU := hU0.step hb; have c6 := hU.c; have f6 := hU.f)
  have hU2 := hU.set true
  have c6' := hU2.c
  refine ⟨.bool true, ?_, rfl, hU2.B⟩
  simp [results, Try.f4, go_sem, c6']
theorem func_nil (W : World) (b : Value) : (binOp BinOp.eql 37 (.func (.func 24) #[] #[b]) .nilFunc).run Try.prog W = .ok (.bool false) W := by kernel_rfl
theorem pre_last {xs pre : List S24} {x y : S24} (hy : xs[pre.length]? = some y) (h : pre ++ [x] <+: xs) : x = y := by
  obtain ⟨t, ht⟩ := h
  subst ht
  simpa using hy
set_option maxRecDepth 100000 in
set_option maxHeartbeats 8000000 in
theorem LexTokens_main (t : ByteArray) (most : Int) (w : World) (hs : t.size ≤ 300) (xs : List S24) (f en : Int) (l0 : List S24) (f0 : Int) (kR kS : Nat) (hx : Aside0 (lexL t (t.size + 2) 0 = some (xs, f, en))) (hT : Aside0 (lex_Tokens.f t = some (l0, f, en)))
    (hR : Aside0 (sealringref06_Tokens.f kR t = some (xs, f, en))) (hl0 : Aside0 (l0 = if en = 0 then xs else [])) (hS : Aside0 (sealringref06_Same.f kS l0 l0 = some true)) (HLX : Aside0 (xs.length ≤ 301)) :
    Calls Try.prog 4 #[.string t, .int .i64 most] w fun e w' => e = .returned (.bool true) ∧ Below w.heap.size w w' := by
  refine (callsIn_wide (n := 4)).1 ?_
  refine callsIn_of_wp_marks Try.func4 rfl trivial ?_ rfl
  simp only [Try.ntmps4, List.size_toArray, List.length_cons, List.length_nil, Nat.reduceAdd, Nat.reduceSub, Array.replicate_succ, Array.replicate_zero, List.push_toArray, List.append_toArray, List.nil_append, List.cons_append]
  have c1' : decide ((t.size : Int) > 300) = false := decide_eq_false (by omega)
  have hU0 := ULs.start w most 3 4
  have hfn := func_nil
  gi_wp2_with (first
    | (refine ⟨trivial, ?_⟩; gi_at_call 9; refine (callsIn_wide.2 (lex_Tokens.calls t l0 f en _ hT.out)).mono ?_; rintro e w1 ⟨v0, rfl, ho0, hb1⟩; have hU1 := hU0.step hb1; obtain ⟨A0, k0, rfl⟩ := Kd.R_slice ho0)
    | (refine ⟨trivial, ?_⟩; gi_at_call 10; refine (callsIn_wide.2 (sealringref06_Tokens.calls kR t xs f en _ hR.out)).mono ?_; rintro e w2 ⟨v1, rfl, ho1, hb2⟩; have hU2 := hU1.step hb2; have hq0 := Kd.R_below ho0 hb2; clear ho0; obtain ⟨A1, k1, rfl⟩ := Kd.R_slice ho1)
    | (refine ⟨trivial, ?_⟩; gi_at_call 11; refine (lex_All_in _ _ _).mono ?_; rintro e w6 ⟨rfl, hw6⟩))
  subst hw6
  have hI0 := TI.start w2 (.slice A1 xs.length k1) t
  have hb := boxv_cell (.cells #[.int .i64 0] 3) (boxv (w2.alloc (.cells #[.slice A1 xs.length k1] 31)) (.string t) 9).1
  simp only [World.size_alloc] at hb
  have hW0 : ((((w2.alloc (.cells #[.slice A1 xs.length k1] 31)).alloc (.cells #[.string t] 9)).alloc (.cells #[.int .i64 0] 3))).heap.size = w2.heap.size + 3 := by simp
  refine wpIn_rangeFunc_ownH rfl (by omega) (gf := 24) (lb := #[.pointer (some ⟨w2.heap.size + 1, 0, none⟩)]) rfl trivial (enters_of Try.func24 (by kernel_rfl) rfl)
    (lex_All_stops _ (by omega) (w2.heap.size + 1) (t.size + 2) t (by omega) xs (f, en) hx.out _ (by simp) hb) keepTok_t (keepTok_b _) (Below.refl _ _) (fun _ => rfl)
    (fun pre W => TI w2 (.slice A1 xs.length k1) pre.length W)
    (fun c pre W => ((c = .exit 0 ∧ most = (pre.length : Int)) ∧ TI w2 (.slice A1 xs.length k1) pre.length W) ∨ ¬ pre <+: xs)
    (TI.own w2 _ _ _ (by simp))
    (fun c s W W' row hs hg hr => hs.imp (fun h => ⟨h.1, TI.own w2 _ (fun s : List S24 => s.length) _ (by simp) s W W' row h.2 hg hr⟩) id)
    hI0
    (fun x a' W => ∃ b, w2.heap.size + 3 ≤ b ∧ W.heap[b]? = some (.cells #[.int .i64 x.f0, .int .i64 x.f1, .int .i64 x.f2, .int .i64 x.f3, .string x.f4] 24 (0, 0)) ∧ a' = { tmps := #[.string t, .int .i64 most, undef, .pointer (some ⟨w.heap.size, 0, none⟩), .pointer (some ⟨w.heap.size + 1, 0, none⟩), .slice A0 l0.length k0, .int .i64 f, .int .i64 en, .pointer (some ⟨w2.heap.size, 0, none⟩), .int .i64 f, .int .i64 en, .func (.func 24) #[] #[.pointer (some ⟨w2.heap.size + 1, 0, none⟩)], .pointer (some ⟨w2.heap.size + 1 + 1, 0, none⟩), .pointer (some ⟨b, 0, none⟩), .string t, .int .i64 t.size, .bool false, undef, .tuple #[.slice A0 l0.length k0, .int .i64 f, .int .i64 en], .string t, .tuple #[.slice A0 l0.length k0, .int .i64 f, .int .i64 en], .slice A0 l0.length k0, .int .i64 f, .int .i64 en, .tuple #[.slice A1 xs.length k1, .int .i64 f, .int .i64 en], .string t, .tuple #[.slice A1 xs.length k1, .int .i64 f, .int .i64 en], .slice A1 xs.length k1, .int .i64 f, .int .i64 en, .string t, .func (.func 24) #[] #[.pointer (some ⟨w2.heap.size + 1, 0, none⟩)], .func (.func 24) #[] #[.pointer (some ⟨w2.heap.size + 1, 0, none⟩)], .bool false, .func (.func 24) #[] #[.pointer (some ⟨w2.heap.size + 1, 0, none⟩)], tokW x, undef, undef, undef, undef, undef, undef, undef, undef, undef, undef, undef, undef, undef, undef, undef, undef, undef, undef, undef, undef, undef, undef, undef, undef, undef, undef, undef, undef, undef, undef, undef, undef, undef, undef, undef, undef, undef, undef, undef, undef, undef, undef, undef, undef], defers := [] })
    ?Ax ?assign ?body ?done ?stop
  case Ax =>
    rintro x a' _ W W' row ⟨b, h1, h2, h3⟩ hg hr
    exact ⟨b, h1, (hg.block b (blk_lt h2) (fun e => by obtain ⟨_, o, ho, hc⟩ := hr b e.symm; rw [h2] at ho; cases ho; simp [Obj.isCells] at hc)).trans h2, h3⟩
  case assign =>
    intro l pre x W K hI hK
    have hB := below_alloc (Below.refl W.heap.size W) (.cells #[.int .i64 x.f0, .int .i64 x.f1, .int .i64 x.f2, .int .i64 x.f3, .string x.f4] 24)
    have hKK := hK { tmps := #[.string t, .int .i64 most, undef, .pointer (some ⟨w.heap.size, 0, none⟩), .pointer (some ⟨w.heap.size + 1, 0, none⟩), .slice A0 l0.length k0, .int .i64 f, .int .i64 en, .pointer (some ⟨w2.heap.size, 0, none⟩), .int .i64 f, .int .i64 en, .func (.func 24) #[] #[.pointer (some ⟨w2.heap.size + 1, 0, none⟩)], .pointer (some ⟨w2.heap.size + 1 + 1, 0, none⟩), .pointer (some ⟨W.heap.size, 0, none⟩), .string t, .int .i64 t.size, .bool false, undef, .tuple #[.slice A0 l0.length k0, .int .i64 f, .int .i64 en], .string t, .tuple #[.slice A0 l0.length k0, .int .i64 f, .int .i64 en], .slice A0 l0.length k0, .int .i64 f, .int .i64 en, .tuple #[.slice A1 xs.length k1, .int .i64 f, .int .i64 en], .string t, .tuple #[.slice A1 xs.length k1, .int .i64 f, .int .i64 en], .slice A1 xs.length k1, .int .i64 f, .int .i64 en, .string t, .func (.func 24) #[] #[.pointer (some ⟨w2.heap.size + 1, 0, none⟩)], .func (.func 24) #[] #[.pointer (some ⟨w2.heap.size + 1, 0, none⟩)], .bool false, .func (.func 24) #[] #[.pointer (some ⟨w2.heap.size + 1, 0, none⟩)], tokW x, undef, undef, undef, undef, undef, undef, undef, undef, undef, undef, undef, undef, undef, undef, undef, undef, undef, undef, undef, undef, undef, undef, undef, undef, undef, undef, undef, undef, undef, undef, undef, undef, undef, undef, undef, undef, undef, undef, undef, undef, undef, undef, undef, undef], defers := [] } (W.alloc (.cells #[.int .i64 x.f0, .int .i64 x.f1, .int .i64 x.f2, .int .i64 x.f3, .string x.f4] 24)) ((keeps_below hB).from _) (keepTok_below hB) (hI.step hB) ⟨W.heap.size, hI.z, blk_new W _, rfl⟩
    have HK := Aside0.mk hKK
    clear hKK hK hB hI
    gi_wp2
    exact HK.out
  case body =>
    rintro l pre x a' W - - hI ⟨b, hbz, hbb, rfl⟩ hlen
    have hU := hU2.step hI.B
    have cm := hU.m
    have c6 := hU.c
    have f6 := hU.f
    have c0 : W.cell? ⟨w2.heap.size, 0, none⟩ = some (.slice A1 xs.length k1) := (blk_cell hI.wt 0).trans rfl
    have cn : W.cell? ⟨w2.heap.size + 1 + 1, 0, none⟩ = some (.int .i64 (pre.length : Int)) := (blk_cell hI.n 0).trans rfl
    have fn : W.frozen? ⟨w2.heap.size + 1 + 1, 0, none⟩ = false := blk_frozen hI.n 0
    have x0 : W.cell? ⟨b, 0, none⟩ = some (.int .i64 x.f0) := (blk_cell hbb 0).trans rfl
    have x1 : W.cell? ⟨b, 1, none⟩ = some (.int .i64 x.f1) := (blk_cell hbb 1).trans rfl
    have x2 : W.cell? ⟨b, 2, none⟩ = some (.int .i64 x.f2) := (blk_cell hbb 2).trans rfl
    have x3 : W.cell? ⟨b, 3, none⟩ = some (.int .i64 x.f3) := (blk_cell hbb 3).trans rfl
    have x4 : W.cell? ⟨b, 4, none⟩ = some (.string x.f4) := (blk_cell hbb 4).trans rfl
    have q0 : 0 ≤ (pre.length : Int) := by omega
    have q1 : (pre.length : Int) < (xs.length : Int) := by omega
    obtain ⟨d1, e1, y0, y1, y2, y3, y4⟩ := at_T24 (Kd.C_below (Kd.R_reads' ho1).2.2 hI.B) (pre.length : Int) q0 q1
    subst e1
    have r1 : rd_T24 xs (pre.length : Int) = xs[pre.length] := by
      unfold rd_T24
      rw [show ((pre.length : Int)).toNat = pre.length from rfl, List.getD_eq_getElem?_getD, List.getElem?_eq_getElem hlen]
      rfl
    rw [r1] at y0 y1 y2 y3 y4
    rw [show ((pre.length : Int)).toNat = pre.length from rfl] at y0 y1 y2 y3 y4
    have hy := Aside0.mk (List.getElem?_eq_getElem hlen)
    generalize xs[pre.length] = y at y0 y1 y2 y3 y4 hy
    have HI := Aside0.mk hI
    have hlen' := Aside0.mk hlen
    have hbb' := Aside0.mk hbb
    clear hU0 hU1 hb1 hb2 hfn hq0 ho1 hI0 hb hI hlen r1 hbb hU
    have qd : decide (xs.length ≤ pre.length) = false := by have := hlen'.out; simp; omega
    have q2 : (pre.length : Int) ≤ 301 := by have := HLX.out; omega
    have hz2 := hU2.z
    have hUi := (hU2.step HI.out.B).far ⟨w2.heap.size + 1 + 1, 0, none⟩ (by show w.heap.size + 2 ≤ w2.heap.size + 1 + 1; omega) (.int .i64 ((pre.length : Int) + 1))
    have cmi := hUi.m
    have HZ2 := Aside0.mk hz2
    have hfin := ti_fin (u := .string t) HI.out
    have HKF := Aside0.mk hfin.1
    have HKT := Aside0.mk hfin.2.1
    have HTI := Aside0.mk hfin.2.2
    clear hUi hz2 hfin
    by_cases hxy : x = y
    · subst hxy
      by_cases hm : (pre.length : Int) + 1 = most
      · have hmb : ((pre.length : Int) + 1 == most) = true := by simp [hm]
        have HM := Aside0.mk hm
        clear hm
        gi_wp2_with fail
        gi_region
        all_goals gi_wp2_with fail
        all_goals (
          refine ⟨?_, .inl ⟨⟨rfl, ?_⟩, ?_⟩⟩
          · rw [hW0]; exact HKF.out
          · rw [← HM.out, List.length_append, List.length_singleton]; rfl
          · rw [List.length_append, List.length_singleton]; exact HTI.out)
      · have hmb : ((pre.length : Int) + 1 == most) = false := by simp [hm]
        clear hm
        gi_wp2_with fail
        gi_region
        all_goals gi_wp2_with fail
        all_goals (
          refine ⟨?_, ?_, ?_⟩
          · rw [hW0]; exact HKF.out
          · exact HKT.out
          · show TI w2 _ (pre ++ [x]).length _
            rw [List.length_append, List.length_singleton]; exact HTI.out)
    · have hne := tok_ne hxy
      have hnp : ¬ pre ++ [x] <+: xs := fun hp => hxy (pre_last hy.out hp)
      have HNP := Aside0.mk hnp
      clear hnp
      gi_wp2_with fail
      gi_region
      all_goals gi_wp2_with fail
      all_goals (
        refine ⟨?_, .inr HNP.out⟩
        exact ((KeepsOthers.setCell _ _ _).trans (keeps_below (below_drew (Below.refl _ _)))).from _)
  case done =>
    rintro D ys W hD rfl hI hK
    rw [hW0] at hD
    clear hU0 hU1 hb1 hb2 hfn hI0 hb
    have hU := hU2.step hI.B
    have cm := hU.m
    have c6 := hU.c
    have f6 := hU.f
    have c0 : W.cell? ⟨w2.heap.size, 0, none⟩ = some (.slice A1 ys.length k1) := (blk_cell hI.wt 0).trans rfl
    have g0 : W.frozen? ⟨w2.heap.size, 0, none⟩ = false := blk_frozen hI.wt 0
    have cn : W.cell? ⟨w2.heap.size + 1 + 1, 0, none⟩ = some (.int .i64 (ys.length : Int)) := (blk_cell hI.n 0).trans rfl
    have hI2 := Aside0.mk hI
    have HK := Aside0.mk hK
    have HD := Aside0.mk hD
    have HU := Aside0.mk hU
    have r0 := Kd.R_reads' hq0
    have r1 := Kd.R_reads' ho1
    by_cases h0 : en = 0
    · have hl := hl0.out
      rw [if_pos h0] at hl
      subst hl
      have s0 := Aside0.mk (Kd.C_below r0.2.2 hI.B)
      have s1 := Aside0.mk (Kd.C_below r1.2.2 hI.B)
      have t0 := Aside0.mk r0.2.1
      have t1 := Aside0.mk r1.2.1
      have hn0 : (en != 0) = false := by simp [h0]
      clear hI hK hD hU r0 r1 hq0 ho1 h0
      gi_wp2_with (first
        | (refine ⟨trivial, ?_⟩; gi_at_call 12; refine (callsIn_wide.2 (sealringref06_Same.calls kS A0 k0 _ A1 k1 _ true _ s0.out t0.out s1.out t1.out hS.out)).mono ?_; rintro e w8 ⟨rfl, hd⟩; obtain ⟨nd, rfl⟩ := hd.out; have hU8 := HU.out.step (pw_below_drewN (Below.refl _ _) nd))
        | (refine ⟨trivial, ?_⟩; gi_at_call 6; refine (lives_in _ _).mono ?_; rintro e w9 ⟨rfl, hb9⟩; have hU9 := hU8.step hb9; have c69 := hU9.c; have f69 := hU9.f; have HB9 := Aside0.mk hb9; clear hb9))
      have hU8' := hU9.set true
      have hK8 : (w9.setCell ⟨w.heap.size + 1, 0, none⟩ (.bool true)).heap[D]? = some (.deferred (some [])) :=
        (Below.heap_setCell _ _ _ _ (by have := HD.out; have := hU2.z; simp; omega)).trans ((HB9.out.block D (blk_lt HK.out)).trans HK.out)
      refine ⟨by simp, .inl ⟨_, _, rfl, run_takeDeferred hK8, ?_⟩⟩
      have hc5 := cell_kept hU8'.c (grownBy_putObj' _ D (.deferred none)) (fun r e => by cases e; exact ⟨_, hK8, rfl⟩)
      refine ⟨.bool true, ?_, rfl, hU8'.B.trans (belowK_b (w := w) (Nat.le_refl _) _ D _ _ (by have := HD.out; have := hU2.z; omega) hK8 rfl rfl)⟩
      simp [results, Try.f4, go_sem, hc5]
    · have hl := hl0.out
      rw [if_neg h0] at hl
      subst hl
      have hBs : Below w2.heap.size w2 (W.setCell ⟨w2.heap.size, 0, none⟩ (.slice none 0 0)) := hI.B.setCell (p := ⟨w2.heap.size, 0, none⟩) (Nat.le_refl _) _
      have s0 := Aside0.mk (Kd.C_below r0.2.2 hBs)
      have hUs := hU.far ⟨w2.heap.size, 0, none⟩ hU2.z (.slice none 0 0)
      have HUs := Aside0.mk hUs
      have t0 := Aside0.mk r0.2.1
      have hn0 : (en != 0) = true := by simp [h0]
      clear hI hK hD hU r0 r1 hq0 ho1 h0 hBs hUs
      gi_wp2_with (first
        | (refine ⟨trivial, ?_⟩; gi_at_call 12; refine (callsIn_wide.2 (sealringref06_Same.calls kS A0 k0 [] none 0 [] true _ s0.out t0.out nil_C (Nat.le_refl _) hS.out)).mono ?_; rintro e w8 ⟨rfl, hd⟩; obtain ⟨nd, rfl⟩ := hd.out; have hU8 := HUs.out.step (pw_below_drewN (Below.refl _ _) nd))
        | (refine ⟨trivial, ?_⟩; gi_at_call 6; refine (lives_in _ _).mono ?_; rintro e w9 ⟨rfl, hb9⟩; have hU9 := hU8.step hb9; have c69 := hU9.c; have f69 := hU9.f; have HB9 := Aside0.mk hb9; clear hb9))
      have hU8' := hU9.set true
      have hKs : (W.setCell ⟨w2.heap.size, 0, none⟩ (.slice none 0 0)).heap[D]? = some (.deferred (some [])) := (Below.heap_setCell _ _ _ _ (by have := HD.out; simp; omega)).trans HK.out
      have hK8 : (w9.setCell ⟨w.heap.size + 1, 0, none⟩ (.bool true)).heap[D]? = some (.deferred (some [])) :=
        (Below.heap_setCell _ _ _ _ (by have := HD.out; have := hU2.z; simp; omega)).trans ((HB9.out.block D (blk_lt hKs)).trans hKs)
      refine ⟨by simp, .inl ⟨_, _, rfl, run_takeDeferred hK8, ?_⟩⟩
      have hc5 := cell_kept hU8'.c (grownBy_putObj' _ D (.deferred none)) (fun r e => by cases e; exact ⟨_, hK8, rfl⟩)
      refine ⟨.bool true, ?_, rfl, hU8'.B.trans (belowK_b (w := w) (Nat.le_refl _) _ D _ _ (by have := HD.out; have := hU2.z; omega) hK8 rfl rfl)⟩
      simp [results, Try.f4, go_sem, hc5]
  case stop =>
    rintro D c pre W hD hpre hI hK
    rw [hW0] at hD
    rcases hI with ⟨⟨rfl, rfl⟩, hI⟩ | hI
    · by_cases hpl : pre.length = xs.length
      · have hnb : ((pre.length : Int) != (xs.length : Int)) = false := by simp [hpl]
        clear hpl
        clear hU0 hU1 hb1 hb2 hfn hI0 hb
        have hU := hU2.step hI.B
        have cm := hU.m
        have c6 := hU.c
        have f6 := hU.f
        have c0 : W.cell? ⟨w2.heap.size, 0, none⟩ = some (.slice A1 xs.length k1) := (blk_cell hI.wt 0).trans rfl
        have g0 : W.frozen? ⟨w2.heap.size, 0, none⟩ = false := blk_frozen hI.wt 0
        have cn : W.cell? ⟨w2.heap.size + 1 + 1, 0, none⟩ = some (.int .i64 (pre.length : Int)) := (blk_cell hI.n 0).trans rfl
        have hI2 := Aside0.mk hI
        have HK := Aside0.mk hK
        have HD := Aside0.mk hD
        have HU := Aside0.mk hU
        have r0 := Kd.R_reads' hq0
        have r1 := Kd.R_reads' ho1
        by_cases h0 : en = 0
        · have hl := hl0.out
          rw [if_pos h0] at hl
          subst hl
          have s0 := Aside0.mk (Kd.C_below r0.2.2 hI.B)
          have s1 := Aside0.mk (Kd.C_below r1.2.2 hI.B)
          have t0 := Aside0.mk r0.2.1
          have t1 := Aside0.mk r1.2.1
          have hn0 : (en != 0) = false := by simp [h0]
          clear hI hK hD hU r0 r1 hq0 ho1 h0
          gi_wp2_with (first
            | (refine ⟨trivial, ?_⟩; gi_at_call 12; refine (callsIn_wide.2 (sealringref06_Same.calls kS A0 k0 _ A1 k1 _ true _ s0.out t0.out s1.out t1.out hS.out)).mono ?_; rintro e w8 ⟨rfl, hd⟩; obtain ⟨nd, rfl⟩ := hd.out; have hU8 := HU.out.step (pw_below_drewN (Below.refl _ _) nd))
            | (refine ⟨trivial, ?_⟩; gi_at_call 6; refine (lives_in _ _).mono ?_; rintro e w9 ⟨rfl, hb9⟩; have hU9 := hU8.step hb9; have c69 := hU9.c; have f69 := hU9.f; have HB9 := Aside0.mk hb9; clear hb9))
          have hU8' := hU9.set true
          have hK8 : (w9.setCell ⟨w.heap.size + 1, 0, none⟩ (.bool true)).heap[D]? = some (.deferred (some [])) :=
            (Below.heap_setCell _ _ _ _ (by have := HD.out; have := hU2.z; simp; omega)).trans ((HB9.out.block D (blk_lt HK.out)).trans HK.out)
          refine ⟨by simp, .inl ⟨_, _, rfl, run_takeDeferred hK8, ?_⟩⟩
          have hc5 := cell_kept hU8'.c (grownBy_putObj' _ D (.deferred none)) (fun r e => by cases e; exact ⟨_, hK8, rfl⟩)
          refine ⟨.bool true, ?_, rfl, hU8'.B.trans (belowK_b (w := w) (Nat.le_refl _) _ D _ _ (by have := HD.out; have := hU2.z; omega) hK8 rfl rfl)⟩
          simp [results, Try.f4, go_sem, hc5]
        · have hl := hl0.out
          rw [if_neg h0] at hl
          subst hl
          have hBs : Below w2.heap.size w2 (W.setCell ⟨w2.heap.size, 0, none⟩ (.slice none 0 0)) := hI.B.setCell (p := ⟨w2.heap.size, 0, none⟩) (Nat.le_refl _) _
          have s0 := Aside0.mk (Kd.C_below r0.2.2 hBs)
          have hUs := hU.far ⟨w2.heap.size, 0, none⟩ hU2.z (.slice none 0 0)
          have HUs := Aside0.mk hUs
          have t0 := Aside0.mk r0.2.1
          have hn0 : (en != 0) = true := by simp [h0]
          clear hI hK hD hU r0 r1 hq0 ho1 h0 hBs hUs
          gi_wp2_with (first
            | (refine ⟨trivial, ?_⟩; gi_at_call 12; refine (callsIn_wide.2 (sealringref06_Same.calls kS A0 k0 [] none 0 [] true _ s0.out t0.out nil_C (Nat.le_refl _) hS.out)).mono ?_; rintro e w8 ⟨rfl, hd⟩; obtain ⟨nd, rfl⟩ := hd.out; have hU8 := HUs.out.step (pw_below_drewN (Below.refl _ _) nd))
            | (refine ⟨trivial, ?_⟩; gi_at_call 6; refine (lives_in _ _).mono ?_; rintro e w9 ⟨rfl, hb9⟩; have hU9 := hU8.step hb9; have c69 := hU9.c; have f69 := hU9.f; have HB9 := Aside0.mk hb9; clear hb9))
          have hU8' := hU9.set true
          have hKs : (W.setCell ⟨w2.heap.size, 0, none⟩ (.slice none 0 0)).heap[D]? = some (.deferred (some [])) := (Below.heap_setCell _ _ _ _ (by have := HD.out; simp; omega)).trans HK.out
          have hK8 : (w9.setCell ⟨w.heap.size + 1, 0, none⟩ (.bool true)).heap[D]? = some (.deferred (some [])) :=
            (Below.heap_setCell _ _ _ _ (by have := HD.out; have := hU2.z; simp; omega)).trans ((HB9.out.block D (blk_lt hKs)).trans hKs)
          refine ⟨by simp, .inl ⟨_, _, rfl, run_takeDeferred hK8, ?_⟩⟩
          have hc5 := cell_kept hU8'.c (grownBy_putObj' _ D (.deferred none)) (fun r e => by cases e; exact ⟨_, hK8, rfl⟩)
          refine ⟨.bool true, ?_, rfl, hU8'.B.trans (belowK_b (w := w) (Nat.le_refl _) _ D _ _ (by have := HD.out; have := hU2.z; omega) hK8 rfl rfl)⟩
          simp [results, Try.f4, go_sem, hc5]
      · have hnb : ((pre.length : Int) != (xs.length : Int)) = true := by simp; omega
        clear hpl
        clear hU0 hU1 hb1 hb2 hfn hI0 hb
        have hU := hU2.step hI.B
        have cm := hU.m
        have c6 := hU.c
        have f6 := hU.f
        have c0 : W.cell? ⟨w2.heap.size, 0, none⟩ = some (.slice A1 xs.length k1) := (blk_cell hI.wt 0).trans rfl
        have g0 : W.frozen? ⟨w2.heap.size, 0, none⟩ = false := blk_frozen hI.wt 0
        have cn : W.cell? ⟨w2.heap.size + 1 + 1, 0, none⟩ = some (.int .i64 (pre.length : Int)) := (blk_cell hI.n 0).trans rfl
        have hI2 := Aside0.mk hI
        have HK := Aside0.mk hK
        have HD := Aside0.mk hD
        have HU := Aside0.mk hU
        have r0 := Kd.R_reads' hq0
        have r1 := Kd.R_reads' ho1
        by_cases h0 : en = 0
        · have hl := hl0.out
          rw [if_pos h0] at hl
          subst hl
          have s0 := Aside0.mk (Kd.C_below r0.2.2 hI.B)
          have s1 := Aside0.mk (Kd.C_below r1.2.2 hI.B)
          have t0 := Aside0.mk r0.2.1
          have t1 := Aside0.mk r1.2.1
          have hn0 : (en != 0) = false := by simp [h0]
          clear hI hK hD hU r0 r1 hq0 ho1 h0
          gi_wp2_with (first
            | (refine ⟨trivial, ?_⟩; gi_at_call 12; refine (callsIn_wide.2 (sealringref06_Same.calls kS A0 k0 _ A1 k1 _ true _ s0.out t0.out s1.out t1.out hS.out)).mono ?_; rintro e w8 ⟨rfl, hd⟩; obtain ⟨nd, rfl⟩ := hd.out; have hU8 := HU.out.step (pw_below_drewN (Below.refl _ _) nd))
            | (refine ⟨trivial, ?_⟩; gi_at_call 6; refine (lives_in _ _).mono ?_; rintro e w9 ⟨rfl, hb9⟩; have hU9 := hU8.step hb9; have c69 := hU9.c; have f69 := hU9.f; have HB9 := Aside0.mk hb9; clear hb9))
          have hU8' := hU9.set true
          have hK8 : (w9.setCell ⟨w.heap.size + 1, 0, none⟩ (.bool true)).heap[D]? = some (.deferred (some [])) :=
            (Below.heap_setCell _ _ _ _ (by have := HD.out; have := hU2.z; simp; omega)).trans ((HB9.out.block D (blk_lt HK.out)).trans HK.out)
          refine ⟨by simp, .inl ⟨_, _, rfl, run_takeDeferred hK8, ?_⟩⟩
          have hc5 := cell_kept hU8'.c (grownBy_putObj' _ D (.deferred none)) (fun r e => by cases e; exact ⟨_, hK8, rfl⟩)
          refine ⟨.bool true, ?_, rfl, hU8'.B.trans (belowK_b (w := w) (Nat.le_refl _) _ D _ _ (by have := HD.out; have := hU2.z; omega) hK8 rfl rfl)⟩
          simp [results, Try.f4, go_sem, hc5]
        · have hl := hl0.out
          rw [if_neg h0] at hl
          subst hl
          have hBs : Below w2.heap.size w2 (W.setCell ⟨w2.heap.size, 0, none⟩ (.slice none 0 0)) := hI.B.setCell (p := ⟨w2.heap.size, 0, none⟩) (Nat.le_refl _) _
          have s0 := Aside0.mk (Kd.C_below r0.2.2 hBs)
          have hUs := hU.far ⟨w2.heap.size, 0, none⟩ hU2.z (.slice none 0 0)
          have HUs := Aside0.mk hUs
          have t0 := Aside0.mk r0.2.1
          have hn0 : (en != 0) = true := by simp [h0]
          clear hI hK hD hU r0 r1 hq0 ho1 h0 hBs hUs
          gi_wp2_with (first
            | (refine ⟨trivial, ?_⟩; gi_at_call 12; refine (callsIn_wide.2 (sealringref06_Same.calls kS A0 k0 [] none 0 [] true _ s0.out t0.out nil_C (Nat.le_refl _) hS.out)).mono ?_; rintro e w8 ⟨rfl, hd⟩; obtain ⟨nd, rfl⟩ := hd.out; have hU8 := HUs.out.step (pw_below_drewN (Below.refl _ _) nd))
            | (refine ⟨trivial, ?_⟩; gi_at_call 6; refine (lives_in _ _).mono ?_; rintro e w9 ⟨rfl, hb9⟩; have hU9 := hU8.step hb9; have c69 := hU9.c; have f69 := hU9.f; have HB9 := Aside0.mk hb9; clear hb9))
          have hU8' := hU9.set true
          have hKs : (W.setCell ⟨w2.heap.size, 0, none⟩ (.slice none 0 0)).heap[D]? = some (.deferred (some [])) := (Below.heap_setCell _ _ _ _ (by have := HD.out; simp; omega)).trans HK.out
          have hK8 : (w9.setCell ⟨w.heap.size + 1, 0, none⟩ (.bool true)).heap[D]? = some (.deferred (some [])) :=
            (Below.heap_setCell _ _ _ _ (by have := HD.out; have := hU2.z; simp; omega)).trans ((HB9.out.block D (blk_lt hKs)).trans hKs)
          refine ⟨by simp, .inl ⟨_, _, rfl, run_takeDeferred hK8, ?_⟩⟩
          have hc5 := cell_kept hU8'.c (grownBy_putObj' _ D (.deferred none)) (fun r e => by cases e; exact ⟨_, hK8, rfl⟩)
          refine ⟨.bool true, ?_, rfl, hU8'.B.trans (belowK_b (w := w) (Nat.le_refl _) _ D _ _ (by have := HD.out; have := hU2.z; omega) hK8 rfl rfl)⟩
          simp [results, Try.f4, go_sem, hc5]
    · exact (hI hpre).elim
theorem lexL_f0 (t : ByteArray) : ∀ (k : Nat) (a : Int) (xs : List S24) (f en : Int), lexL t k a = some (xs, f, en) → en = 0 → f = 0
  | 0, a, xs, f, en, h, he => by simp [lexL] at h
  | k + 1, a, xs, f, en, h, he => by
    unfold lexL at h
    cases hN : nextP t a with
    | mk kd y =>
    obtain ⟨f', b, nn, s, e⟩ := y
    rw [hN] at h
    simp only at h
    by_cases d1 : e = 0
    · rw [if_pos d1] at h
      by_cases d2 : kd = 12
      · rw [if_pos d2] at h
        simp only [Option.some.injEq, Prod.mk.injEq] at h
        exact h.2.1.symm
      · rw [if_neg d2] at h
        obtain ⟨⟨ys, f2, en'⟩, H2, e2⟩ := Option.map_eq_some_iff.1 h
        simp only [Prod.mk.injEq] at e2
        obtain ⟨rfl, rfl, rfl⟩ := e2
        exact lexL_f0 t k b ys f2 _ H2 he
    · rw [if_neg d1] at h
      simp only [Option.some.injEq, Prod.mk.injEq] at h
      omega
theorem LexTokens_walk (t : ByteArray) (most : Int) (w : World) (hs : t.size ≤ 140737488351232) :
    Calls Try.prog 4 #[.string t, .int .i64 most] w fun e w' => e = .returned (.bool true) ∧ Below w.heap.size w w' := by
  by_cases c1 : (t.size : Int) > 300
  · exact LexTokens_long t most w hs c1
  obtain ⟨⟨xs, f, en⟩, hx⟩ := Option.isSome_iff_exists.1 (lexL_some t (t.size + 2) 0 (by omega) (by omega))
  have hl : xs.length ≤ 301 := by
    rcases lexL_len _ _ _ _ _ hx with h | h
    · omega
    · subst h; simp
  obtain ⟨kR, hR⟩ := (rTokens_go t (by omega) (t.size + 2) 0 [] xs f en hx (by simp; omega)).rounds
  have hle : (if en = 0 then xs else []).length ≤ 1000 := by
    by_cases h0 : en = 0
    · rw [if_pos h0]; omega
    · rw [if_neg h0]; simp
  obtain ⟨kS, hS⟩ := (rSame_ev (if en = 0 then xs else []) hle).rounds
  refine LexTokens_main t most w (by omega) xs f en (if en = 0 then xs else []) 0 kR kS ⟨hx⟩ ⟨?_⟩ ⟨hR⟩ ⟨rfl⟩ ⟨hS⟩ ⟨hl⟩
  unfold lex_Tokens.f
  rw [if_pos (by omega), hx]
  by_cases h0 : en = 0
  · have hf := lexL_f0 _ _ _ _ _ _ hx h0
    subst h0 hf
    rfl
  · simp only [Option.map_some, if_neg h0]
end Go.Proofs.Ytjdgjifacdnkgaa.X
end
section
namespace Go.Proofs.Ytjdgjifacdnkgaa.lexTokens
open Go.ChangeShapes Go.WideShapes Go.ChangeAt Go.RowKit
open Go.ChangeMaps (open_string shut_string)
set_option linter.unusedVariables false
theorem own : ownKnob Try.prog.godebug = none := by kernel_rfl
set_option maxRecDepth 100000 in
theorem lifted (os : Os) (started : os.Started) (H : Type) (enc : TypeId × Value → H) :
    ReturnsInHanded {} Try.checked os 4 .any (Rows.lexTokensSpec.pre6 enc Try.prog Try.f4 Rows.lexTokensRow.domain false) (Rows.lexTokensSpec.post enc Try.prog Try.f4 false true false false) := by
  refine returnsInHanded_of_change_sized (C := Try.checked) own started (by kernel_rfl) Try.func4
    (ChangeSpec.witness6 (enc := enc) (C := Try.checked) false ⟨#[], #[.string ByteArray.empty, .int .i64 0], []⟩ 8 (by kernel_rfl) (by kernel_rfl) (by kernel_rfl) (by kernel_rfl)) ?_
  intro W base args ds gs before hval0 hW hcnd hsz0 _
  have hsz : (DataW.weightsEach Try.prog (Try.f4.params.toList ++ Rows.lexTokensSpec.plain.varTypes Try.prog) (ds ++ gs)).all (· ≤ reachBytes) = true := hsz0
  have hval : ∀ (j : Nat) t v, Try.f4.params[j]? = some t → args[j]? = some v → Value.okWide Try.prog W .any base t v := hval0
  have hW' := hW
  obtain ⟨p, q, hA0, hV, rfl, hfz, hnd⟩ := hW
  have hA : DataW.TrodAll enc Try.prog W 0 (fun _ => true) true Try.f4.params.toList args.toList ds p := hA0
  rw [Try.params4] at hA hval hsz
  obtain ⟨v0, vs0, d0, ds0, p0, q0, hargs, rfl, rfl, h0, r0⟩ := trodAll_cons hA
  obtain ⟨v1, vs1, d1, ds1, p1, q1, rfl, rfl, rfl, h1, r1⟩ := trodAll_cons r0
  obtain ⟨rfl, rfl, rfl⟩ := trodAll_nil r1
  obtain rfl : args = #[v0, v1] := by cases args; simp_all
  obtain ⟨rfl, rfl⟩ := trodVars_none hV
  obtain ⟨a0, rfl, rfl, rfl, y0⟩ := open_string Try.underlying9 (hval 0 9 v0 rfl rfl) h0
  have w0 : a0.size ≤ 140737488351232 := by
    have z := sized_string hsz (j := 0) (t := 9) rfl rfl
    rw [Array.length_toList] at z
    exact z
  obtain ⟨a1, rfl, rfl, rfl, w1⟩ := open_int Try.underlying3 (hval 1 3 v1 rfl rfl) h1
  clear hA0 hval0 hsz0 hsz
  refine (X.LexTokens_walk a0 a1 W w0).mono fun e W' ⟨he, bel⟩ => ?_
  subst he
  exact ⟨_, rfl, _, _, _, [], _, [], hW', trodAll_mk1 (shut_bool Try.underlying4 _), (trodAll_cons_mk (shut_string Try.underlying9 y0) (trodAll_cons_mk (shut_int Try.underlying3 w1) trodAll_mk0)), rfl, bel.frame _, fun h => by cases h⟩
theorem over : Rows.lexTokensRow.holds Try.pinned (OpenSpec.ofChange Rows.lexTokensSpec) :=
  OpenClaim.holds_of_wide 4 Try.f4 rfl rfl rfl rfl rfl rfl rfl ⟨rfl, rfl, rfl, rfl, rfl⟩ rfl rfl rfl rfl rfl (by kernel_rfl) Try.func4 (by kernel_rfl)
    (of_decide_eq_true (by kernel_rfl)) (by unfold Func.isWrapper; first | (rw [if_pos (by decide +kernel)]; kernel_rfl) | (rw [if_neg (by decide +kernel)]; exact ⟨rfl, rfl⟩))
    (fun os started H enc _ => lifted os started H enc)
theorem proved : Rows.LexTokensSaid := over
#print axioms proved
end Go.Proofs.Ytjdgjifacdnkgaa.lexTokens
namespace Go.Proofs.Ytjdgjifacdnkgaa
/-- The row, under a short name, for the claim. -/
theorem lexTokens_holds : Rows.LexTokensSaid := lexTokens.proved
end Go.Proofs.Ytjdgjifacdnkgaa
end
