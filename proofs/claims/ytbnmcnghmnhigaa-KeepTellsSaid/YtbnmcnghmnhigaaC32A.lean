import Derived.Test.YtbnmcnghmnhigaaC32A2
import Derived.Test.YtbnmcnghmnhigaaRows
import Derived.WalkKit
import Derived.ProofKit
import Derived.OpenShut
import Derived.ShutString
import Derived.ChangeOld
import Derived.Below
import Derived.SizedLaws
section
namespace Go.Proofs.Ytbnmcnghmnhigaa.X
open Go.RowKit Go.Proofs.YtbnmcnghmnhigaaW.PrintWords Go.Proofs.YtbnmcnghmnhigaaW.PrintLast Go.Proofs.YtbnmcnghmnhigaaW.PrintMore
attribute [local go_sem] Go.Instr.field Go.asAgg max2_int min2_int max_two min_two max_three min_three max_four min_four
set_option linter.unusedVariables false
set_option linter.unusedSimpArgs false
def sealringlaw32_KeepTells.j0 : Nat → Int → ByteArray → ByteArray → Bool → Option (Bool)
  | 0, _, _, _, _ => none
  | k + 1, x0, x1, x2, x46 => if x46 = true then (some false) else ((keep_Content.f x0 x1).bind fun bt1173 => ((sealringref32_Content.f k x0 x1).bind fun bt1177 => ((keep_Inner.f x0 x1 x2).bind fun bt1181 => ((sealringref32_Inner.f x0 x1 x2).bind fun bt1185 => ((sealringlaw32_same.f k bt1173.1 bt1177.1).bind fun t1189 => (if t1189 = true then (if (bt1173.2 == bt1177.2) = true then ((sealringlaw32_same.f k bt1181.1 bt1185.1).bind fun t1190 => (if t1190 = true then (if (bt1181.2 == bt1185.2) = true then ((sealringlaw32_lives.f).bind fun t1191 => (some t1191)) else (some false)) else (some false))) else (some false)) else (some false)))))))
def sealringlaw32_KeepTells.f (k : Nat) (a0 : Int) (a1 : ByteArray) (a2 : ByteArray) : Option (Bool) := (keep_Top.f a0).bind fun bt1164 => ((sealringref32_Top.f k a0).bind fun bt1168 => ((sealringlaw32_same.f k bt1164.1 bt1168.1).bind fun t1172 => (if t1172 = true then (if ((bt1164.2 == 0) != bt1168.2) = true then (sealringlaw32_KeepTells.j0 k a0 a1 a2 true) else (if bt1168.2 = true then (sealringlaw32_KeepTells.j0 k a0 a1 a2 false) else (sealringlaw32_KeepTells.j0 k a0 a1 a2 (bt1164.2 != 24)))) else (sealringlaw32_KeepTells.j0 k a0 a1 a2 true))))
theorem sealringlaw32_KeepTells.mono_l : ∀ k, (∀ y0 y1 y2 y3, LeO (sealringlaw32_KeepTells.j0 k y0 y1 y2 y3) (sealringlaw32_KeepTells.j0 (k + 1) y0 y1 y2 y3))
  | 0 => fun _ _ _ _ r h => by simp [sealringlaw32_KeepTells.j0] at h
  | k + 1 => by
    have ih0 := sealringlaw32_KeepTells.mono_l k
    · intro y0 y1 y2 y3
      unfold sealringlaw32_KeepTells.j0
      repeat' first
      | (with_reducible exact ih0 _ _ _ _)
      | (with_reducible exact sealringlaw32_same.mono _ _ _)
      | (with_reducible exact sealringref32_Content.mono _ _ _)
      | (with_reducible exact sealringref32_Top.mono _ _)
      | (with_reducible exact LeO.refl _)
      | (with_reducible exact LeO.none _)
      | (with_reducible refine LeO.ite ?_ ?_)
      | (with_reducible refine LeO.bind ?_ (fun _ => ?_))
      | exact ih0 _ _ _ _
      | exact sealringlaw32_same.mono _ _ _
      | exact sealringref32_Content.mono _ _ _
      | exact sealringref32_Top.mono _ _
      | exact LeO.none _
      | refine LeO.ite ?_ ?_
      | refine LeO.bind ?_ (fun _ => ?_)
theorem sealringlaw32_KeepTells.mono : ∀ a0 a1 a2 k, LeO (sealringlaw32_KeepTells.f k a0 a1 a2) (sealringlaw32_KeepTells.f (k + 1) a0 a1 a2) := by
  intro a0 a1 a2 k
  have ih0 := sealringlaw32_KeepTells.mono_l k
  unfold sealringlaw32_KeepTells.f
  repeat' first
      | (with_reducible exact ih0 _ _ _ _)
      | (with_reducible exact sealringlaw32_same.mono _ _ _)
      | (with_reducible exact sealringref32_Content.mono _ _ _)
      | (with_reducible exact sealringref32_Top.mono _ _)
      | (with_reducible exact LeO.refl _)
      | (with_reducible exact LeO.none _)
      | (with_reducible refine LeO.ite ?_ ?_)
      | (with_reducible refine LeO.bind ?_ (fun _ => ?_))
      | exact ih0 _ _ _ _
      | exact sealringlaw32_same.mono _ _ _
      | exact sealringref32_Content.mono _ _ _
      | exact sealringref32_Top.mono _ _
      | exact LeO.none _
      | refine LeO.ite ?_ ?_
      | refine LeO.bind ?_ (fun _ => ?_)
set_option maxHeartbeats 8000000 in
set_option maxRecDepth 100000 in
theorem sealringlaw32_KeepTells.calls (k : Nat) (a0 : Int) (a1 : ByteArray) (a2 : ByteArray) (r : Bool) (w : World) (h : sealringlaw32_KeepTells.f k a0 a1 a2 = some r) :
    Calls Try.prog 9 #[.int .i64 a0, .string a1, .string a2] w fun e w' => e = .returned (.bool r) ∧ Below w.heap.size w w' := by
  have HB := Aside0.mk (Below.refl w.heap.size w)
  have H : ((keep_Top.f a0).bind fun bt1164 => ((sealringref32_Top.f k a0).bind fun bt1168 => ((sealringlaw32_same.f k bt1164.1 bt1168.1).bind fun t1172 => (if t1172 = true then (if ((bt1164.2 == 0) != bt1168.2) = true then (sealringlaw32_KeepTells.j0 k a0 a1 a2 true) else (if bt1168.2 = true then (sealringlaw32_KeepTells.j0 k a0 a1 a2 false) else (sealringlaw32_KeepTells.j0 k a0 a1 a2 (bt1164.2 != 24)))) else (sealringlaw32_KeepTells.j0 k a0 a1 a2 true))))) = some r := h
  clear h
  replace H := Option.bind_eq_some_iff.mp H
  obtain ⟨⟨t1164, t1165⟩, A40, H⟩ := H
  replace H : ((sealringref32_Top.f k a0).bind fun bt1168 => ((sealringlaw32_same.f k t1164 bt1168.1).bind fun t1172 => (if t1172 = true then (if ((t1165 == 0) != bt1168.2) = true then (sealringlaw32_KeepTells.j0 k a0 a1 a2 true) else (if bt1168.2 = true then (sealringlaw32_KeepTells.j0 k a0 a1 a2 false) else (sealringlaw32_KeepTells.j0 k a0 a1 a2 (t1165 != 24)))) else (sealringlaw32_KeepTells.j0 k a0 a1 a2 true)))) = some r := H
  have A4 := Aside0.mk A40
  clear A40
  replace H := Option.bind_eq_some_iff.mp H
  obtain ⟨⟨t1168, t1169⟩, A50, H⟩ := H
  replace H : ((sealringlaw32_same.f k t1164 t1168).bind fun t1172 => (if t1172 = true then (if ((t1165 == 0) != t1169) = true then (sealringlaw32_KeepTells.j0 k a0 a1 a2 true) else (if t1169 = true then (sealringlaw32_KeepTells.j0 k a0 a1 a2 false) else (sealringlaw32_KeepTells.j0 k a0 a1 a2 (t1165 != 24)))) else (sealringlaw32_KeepTells.j0 k a0 a1 a2 true))) = some r := H
  have A5 := Aside0.mk A50
  clear A50
  have HC6 := Aside0.mk H
  clear H
  have hu29 := Try.underlying29
  go_enter Try.func9, Try.ntmps9
  go_upto_region 3 with (first | ((with_reducible refine gate_callee (f := 52) rfl ?_); refine goesL_ (some 21) rfl rfl Try.func52 (by kernel_rfl) rfl #[.int .i64 a0] rfl (by (try simp only [List.map_toArray, List.map_cons, List.map_nil]); first | done | rfl | (simp only [List.length_drop, List.length_take]; rfl)) ?_; (with_reducible refine (keep_Top.calls a0 t1164 t1165 _ A4.out).mono ?_); rintro e w7 ⟨v1166, rfl, ho0, hb⟩; refine ⟨_, rfl, ?_⟩; have n0_ := Aside0.mk (Kd.R_lower ho0 (below_size (by repeat (first | (with_reducible first | exact HB.out | apply below_alloc | apply pw_below_drewN | apply below_drew1) | exact HB.out)))); have n1_ := Aside0.mk (below_step (by repeat (first | (with_reducible first | exact HB.out | apply below_alloc | apply pw_below_drewN | apply below_drew1) | exact HB.out)) hb); clear HB; have HO1167 := n0_; have HB := n1_; clear n0_ n1_; (try clear hb); (try clear hb2); (try clear hk); (try clear hi); (try clear ho0)) | ((with_reducible refine gate_callee (f := 53) rfl ?_); refine goesL_ (some 26) rfl rfl Try.func53 (by kernel_rfl) rfl #[.int .i64 a0] rfl (by (try simp only [List.map_toArray, List.map_cons, List.map_nil]); first | done | rfl | (simp only [List.length_drop, List.length_take]; rfl)) ?_; (with_reducible refine (sealringref32_Top.calls k a0 t1168 t1169 _ A5.out).mono ?_); rintro e w8 ⟨v1170, rfl, ho0, hb⟩; refine ⟨_, rfl, ?_⟩; have n0_ := Aside0.mk (Kd.R_elder' (by (with_reducible repeat (first | apply Kd.R_alloc | apply Kd.R_drewN | apply Kd.R_drew)); exact HO1167.out) (Kd.R_base ho0) hb); have n1_ := Aside0.mk (Kd.R_lower (Kd.R_new' ho0 (Kd.R_lt (by (with_reducible repeat (first | apply Kd.R_alloc | apply Kd.R_drewN | apply Kd.R_drew)); exact HO1167.out))) (below_size (by repeat (first | (with_reducible first | exact HB.out | apply below_alloc | apply pw_below_drewN | apply below_drew1) | exact HB.out)))); have n2_ := Aside0.mk (below_step (by repeat (first | (with_reducible first | exact HB.out | apply below_alloc | apply pw_below_drewN | apply below_drew1) | exact HB.out)) hb); clear HO1167; clear HB; have HO1167 := n0_; have HO1171 := n1_; have HB := n2_; clear n0_ n1_ n2_; (try clear hb); (try clear hb2); (try clear hk); (try clear hi); (try clear ho0)))
  (try simp only [Act.put, List.setIfInBounds_toArray, List.set_cons_zero, List.set_cons_succ])
  go_cut [46] (fun v46 wc => ∃ (kq : Nat) (x46_5 : Bool), v46 = .bool x46_5 ∧ Aside0 (sealringlaw32_KeepTells.j0 kq a0 a1 a2 x46_5 = some r) ∧ Aside0 (kq ≤ k) ∧ Aside0 (Below w.heap.size w wc))
  case first =>
    have H := HC6.out
    clear HC6
    replace H := Option.bind_eq_some_iff.mp H
    obtain ⟨t1172, A90, H⟩ := H
    replace H : (if t1172 = true then (if ((t1165 == 0) != t1169) = true then (sealringlaw32_KeepTells.j0 k a0 a1 a2 true) else (if t1169 = true then (sealringlaw32_KeepTells.j0 k a0 a1 a2 false) else (sealringlaw32_KeepTells.j0 k a0 a1 a2 (t1165 != 24)))) else (sealringlaw32_KeepTells.j0 k a0 a1 a2 true)) = some r := H
    have A9 := Aside0.mk A90
    clear A90
    by_cases c10 : t1172 = true
    · subst c10
      have H1 : (if ((t1165 == 0) != t1169) = true then (sealringlaw32_KeepTells.j0 k a0 a1 a2 true) else (if t1169 = true then (sealringlaw32_KeepTells.j0 k a0 a1 a2 false) else (sealringlaw32_KeepTells.j0 k a0 a1 a2 (t1165 != 24)))) = some r := by rw [if_pos rfl] at H; exact H
      clear H
      have H := H1
      clear H1
      by_cases c11 : ((t1165 == 0) != t1169) = true
      · rw [if_pos c11] at H
        have c11b0 : ((t1165 == 0) != t1169) = true := c11
        (try (have c11z := c11; simp at c11z))
        (try (have c11b1 : decide ((t1165 == 0) = t1169) = false := by simpa using c11))
        (try (have c11b2 : ((t1165 == 0) == t1169) = false := by simpa using c11))
        (try (have c11b3 : ¬ ((t1165 == 0) = t1169) := by simpa using c11))
        clear c11
        (first | rw [c11b0] | (simp only [i64_w, i32_w]; rw [c11b0]) | skip)
        have H' := Aside0.mk H
        clear H
        obtain ⟨Ao12, co12, eo12⟩ := Kd.R_slice HO1167.out
        subst eo12
        obtain ⟨Ao13, co13, eo13⟩ := Kd.R_slice HO1171.out
        subst eo13
        go_wp2_with (first | ((with_reducible refine gate_callee (f := 54) rfl ?_); refine goesL_ (some 31) rfl rfl Try.func54 (by kernel_rfl) rfl #[.slice Ao12 t1164.length co12, .slice Ao13 t1168.length co13] rfl (by (try simp only [List.map_toArray, List.map_cons, List.map_nil]); first | done | rfl | (simp only [List.length_drop, List.length_take]; rfl)) ?_; (with_reducible refine (sealringlaw32_same.calls k _ _ t1164 _ _ t1168 true _ ?side1 ?side2 ?side3 ?side4 A9.out).mono ?_); (case side1 => repeat (first | exact (Kd.R_reads' HO1167.out).2.2 | (with_reducible refine Kd.C_alloc ?_ _) | (with_reducible refine Kd.C_drewN ?_ _) | (with_reducible refine Kd.C_drew ?_))); (case side2 => exact (Kd.R_reads' HO1167.out).2.1); (case side3 => repeat (first | exact (Kd.R_reads' HO1171.out).2.2 | (with_reducible refine Kd.C_alloc ?_ _) | (with_reducible refine Kd.C_drewN ?_ _) | (with_reducible refine Kd.C_drew ?_))); (case side4 => exact (Kd.R_reads' HO1171.out).2.1); rintro e w' ⟨rfl, ⟨nd, rfl⟩⟩; refine ⟨_, rfl, ?_⟩))
        go_meet
        case rel => exact ⟨_, (true), (by first | rfl | (simp; done) | (simp [*]; done)), (by first | with_reducible exact H' | exact H' | (subst_vars; exact H')), ⟨by first | omega | exact Nat.le_refl _⟩, ⟨by repeat (first | (with_reducible first | exact HB.out | apply below_alloc | apply pw_below_drewN | apply below_drew1) | exact HB.out)⟩⟩
      · rw [if_neg c11] at H
        have c11b0 : ((t1165 == 0) != t1169) = false := by simpa using c11
        (try (have c11z := c11; simp at c11z))
        (try (have c11b1 : decide ((t1165 == 0) = t1169) = true := by simpa using c11))
        (try (have c11b2 : ((t1165 == 0) == t1169) = true := by simpa using c11))
        clear c11
        (first | rw [c11b0] | (simp only [i64_w, i32_w]; rw [c11b0]) | skip)
        by_cases c14 : t1169 = true
        · subst c14
          have H1 : (sealringlaw32_KeepTells.j0 k a0 a1 a2 false) = some r := by rw [if_pos rfl] at H; exact H
          clear H
          have H := H1
          clear H1
          have H' := Aside0.mk H
          clear H
          obtain ⟨Ao15, co15, eo15⟩ := Kd.R_slice HO1167.out
          subst eo15
          obtain ⟨Ao16, co16, eo16⟩ := Kd.R_slice HO1171.out
          subst eo16
          go_wp2_with (first | ((with_reducible refine gate_callee (f := 54) rfl ?_); refine goesL_ (some 31) rfl rfl Try.func54 (by kernel_rfl) rfl #[.slice Ao15 t1164.length co15, .slice Ao16 t1168.length co16] rfl (by (try simp only [List.map_toArray, List.map_cons, List.map_nil]); first | done | rfl | (simp only [List.length_drop, List.length_take]; rfl)) ?_; (with_reducible refine (sealringlaw32_same.calls k _ _ t1164 _ _ t1168 true _ ?side1 ?side2 ?side3 ?side4 A9.out).mono ?_); (case side1 => repeat (first | exact (Kd.R_reads' HO1167.out).2.2 | (with_reducible refine Kd.C_alloc ?_ _) | (with_reducible refine Kd.C_drewN ?_ _) | (with_reducible refine Kd.C_drew ?_))); (case side2 => exact (Kd.R_reads' HO1167.out).2.1); (case side3 => repeat (first | exact (Kd.R_reads' HO1171.out).2.2 | (with_reducible refine Kd.C_alloc ?_ _) | (with_reducible refine Kd.C_drewN ?_ _) | (with_reducible refine Kd.C_drew ?_))); (case side4 => exact (Kd.R_reads' HO1171.out).2.1); rintro e w' ⟨rfl, ⟨nd, rfl⟩⟩; refine ⟨_, rfl, ?_⟩))
          go_meet
          case rel => exact ⟨_, (false), (by first | rfl | (simp; done) | (simp [*]; done)), (by first | with_reducible exact H' | exact H' | (subst_vars; exact H')), ⟨by first | omega | exact Nat.le_refl _⟩, ⟨by repeat (first | (with_reducible first | exact HB.out | apply below_alloc | apply pw_below_drewN | apply below_drew1) | exact HB.out)⟩⟩
        · replace c14 := Bool.eq_false_iff.mpr c14
          subst c14
          have H1 : (sealringlaw32_KeepTells.j0 k a0 a1 a2 (t1165 != 24)) = some r := by rw [if_neg (show ¬ (false = true) by decide)] at H; exact H
          clear H
          have H := H1
          clear H1
          have H' := Aside0.mk H
          clear H
          obtain ⟨Ao17, co17, eo17⟩ := Kd.R_slice HO1167.out
          subst eo17
          obtain ⟨Ao18, co18, eo18⟩ := Kd.R_slice HO1171.out
          subst eo18
          go_wp2_with (first | ((with_reducible refine gate_callee (f := 54) rfl ?_); refine goesL_ (some 31) rfl rfl Try.func54 (by kernel_rfl) rfl #[.slice Ao17 t1164.length co17, .slice Ao18 t1168.length co18] rfl (by (try simp only [List.map_toArray, List.map_cons, List.map_nil]); first | done | rfl | (simp only [List.length_drop, List.length_take]; rfl)) ?_; (with_reducible refine (sealringlaw32_same.calls k _ _ t1164 _ _ t1168 true _ ?side1 ?side2 ?side3 ?side4 A9.out).mono ?_); (case side1 => repeat (first | exact (Kd.R_reads' HO1167.out).2.2 | (with_reducible refine Kd.C_alloc ?_ _) | (with_reducible refine Kd.C_drewN ?_ _) | (with_reducible refine Kd.C_drew ?_))); (case side2 => exact (Kd.R_reads' HO1167.out).2.1); (case side3 => repeat (first | exact (Kd.R_reads' HO1171.out).2.2 | (with_reducible refine Kd.C_alloc ?_ _) | (with_reducible refine Kd.C_drewN ?_ _) | (with_reducible refine Kd.C_drew ?_))); (case side4 => exact (Kd.R_reads' HO1171.out).2.1); rintro e w' ⟨rfl, ⟨nd, rfl⟩⟩; refine ⟨_, rfl, ?_⟩))
          go_meet
          case rel => exact ⟨_, ((t1165 != 24)), (by first | rfl | (simp; done) | (simp [*]; done)), (by first | with_reducible exact H' | exact H' | (subst_vars; exact H')), ⟨by first | omega | exact Nat.le_refl _⟩, ⟨by repeat (first | (with_reducible first | exact HB.out | apply below_alloc | apply pw_below_drewN | apply below_drew1) | exact HB.out)⟩⟩
    · replace c10 := Bool.eq_false_iff.mpr c10
      subst c10
      have H1 : (sealringlaw32_KeepTells.j0 k a0 a1 a2 true) = some r := by rw [if_neg (show ¬ (false = true) by decide)] at H; exact H
      clear H
      have H := H1
      clear H1
      have H' := Aside0.mk H
      clear H
      obtain ⟨Ao19, co19, eo19⟩ := Kd.R_slice HO1167.out
      subst eo19
      obtain ⟨Ao20, co20, eo20⟩ := Kd.R_slice HO1171.out
      subst eo20
      go_wp2_with (first | ((with_reducible refine gate_callee (f := 54) rfl ?_); refine goesL_ (some 31) rfl rfl Try.func54 (by kernel_rfl) rfl #[.slice Ao19 t1164.length co19, .slice Ao20 t1168.length co20] rfl (by (try simp only [List.map_toArray, List.map_cons, List.map_nil]); first | done | rfl | (simp only [List.length_drop, List.length_take]; rfl)) ?_; (with_reducible refine (sealringlaw32_same.calls k _ _ t1164 _ _ t1168 false _ ?side1 ?side2 ?side3 ?side4 A9.out).mono ?_); (case side1 => repeat (first | exact (Kd.R_reads' HO1167.out).2.2 | (with_reducible refine Kd.C_alloc ?_ _) | (with_reducible refine Kd.C_drewN ?_ _) | (with_reducible refine Kd.C_drew ?_))); (case side2 => exact (Kd.R_reads' HO1167.out).2.1); (case side3 => repeat (first | exact (Kd.R_reads' HO1171.out).2.2 | (with_reducible refine Kd.C_alloc ?_ _) | (with_reducible refine Kd.C_drewN ?_ _) | (with_reducible refine Kd.C_drew ?_))); (case side4 => exact (Kd.R_reads' HO1171.out).2.1); rintro e w' ⟨rfl, ⟨nd, rfl⟩⟩; refine ⟨_, rfl, ?_⟩))
      go_meet
      case rel => exact ⟨_, (true), (by first | rfl | (simp; done) | (simp [*]; done)), (by first | with_reducible exact H' | exact H' | (subst_vars; exact H')), ⟨by first | omega | exact Nat.le_refl _⟩, ⟨by repeat (first | (with_reducible first | exact HB.out | apply below_alloc | apply pw_below_drewN | apply below_drew1) | exact HB.out)⟩⟩
  case rest =>
    clear HC6
    try clear c1
    try clear p2
    try clear c5
    try clear c9
    try clear c10
    try clear c11
    try clear c11b0
    try clear c11b1
    try clear c11b2
    try clear c14
    obtain ⟨kq, x46_5, rfl, HA, HJ5, HB⟩ := hcut
    cases kq with
    | zero => exact absurd HA.out (by simp [sealringlaw32_KeepTells.j0])
    | succ kj5 =>
      have H := HA.out
      clear HA
      simp only [sealringlaw32_KeepTells.j0] at H
      by_cases c21 : x46_5 = true
      · subst c21
        have H1 : (some false) = some r := by rw [if_pos rfl] at H; exact H
        clear H
        have H := H1
        clear H1
        obtain rfl := Option.some.inj H
        go_wp2
        go_ret
        exact ⟨by first | rfl | (simp [errW_none, errW_some] <;> rfl) | (simp [*, errW_none, errW_some] <;> rfl), by repeat (first | (with_reducible first | exact HB.out | apply below_alloc | apply pw_below_drewN | apply below_drew1) | exact HB.out)⟩
      · replace c21 := Bool.eq_false_iff.mpr c21
        subst c21
        have H1 : ((keep_Content.f a0 a1).bind fun bt1173 => ((sealringref32_Content.f kj5 a0 a1).bind fun bt1177 => ((keep_Inner.f a0 a1 a2).bind fun bt1181 => ((sealringref32_Inner.f a0 a1 a2).bind fun bt1185 => ((sealringlaw32_same.f kj5 bt1173.1 bt1177.1).bind fun t1189 => (if t1189 = true then (if (bt1173.2 == bt1177.2) = true then ((sealringlaw32_same.f kj5 bt1181.1 bt1185.1).bind fun t1190 => (if t1190 = true then (if (bt1181.2 == bt1185.2) = true then ((sealringlaw32_lives.f).bind fun t1191 => (some t1191)) else (some false)) else (some false))) else (some false)) else (some false))))))) = some r := by rw [if_neg (show ¬ (false = true) by decide)] at H; exact H
        clear H
        have H := H1
        clear H1
        replace H := Option.bind_eq_some_iff.mp H
        obtain ⟨⟨t1173, t1174⟩, A220, H⟩ := H
        replace H : ((sealringref32_Content.f kj5 a0 a1).bind fun bt1177 => ((keep_Inner.f a0 a1 a2).bind fun bt1181 => ((sealringref32_Inner.f a0 a1 a2).bind fun bt1185 => ((sealringlaw32_same.f kj5 t1173 bt1177.1).bind fun t1189 => (if t1189 = true then (if (t1174 == bt1177.2) = true then ((sealringlaw32_same.f kj5 bt1181.1 bt1185.1).bind fun t1190 => (if t1190 = true then (if (bt1181.2 == bt1185.2) = true then ((sealringlaw32_lives.f).bind fun t1191 => (some t1191)) else (some false)) else (some false))) else (some false)) else (some false)))))) = some r := H
        have A22 := Aside0.mk A220
        clear A220
        replace H := Option.bind_eq_some_iff.mp H
        obtain ⟨⟨t1177, t1178⟩, A230, H⟩ := H
        replace H : ((keep_Inner.f a0 a1 a2).bind fun bt1181 => ((sealringref32_Inner.f a0 a1 a2).bind fun bt1185 => ((sealringlaw32_same.f kj5 t1173 t1177).bind fun t1189 => (if t1189 = true then (if (t1174 == t1178) = true then ((sealringlaw32_same.f kj5 bt1181.1 bt1185.1).bind fun t1190 => (if t1190 = true then (if (bt1181.2 == bt1185.2) = true then ((sealringlaw32_lives.f).bind fun t1191 => (some t1191)) else (some false)) else (some false))) else (some false)) else (some false))))) = some r := H
        have A23 := Aside0.mk A230
        clear A230
        replace H := Option.bind_eq_some_iff.mp H
        obtain ⟨⟨t1181, t1182⟩, A240, H⟩ := H
        replace H : ((sealringref32_Inner.f a0 a1 a2).bind fun bt1185 => ((sealringlaw32_same.f kj5 t1173 t1177).bind fun t1189 => (if t1189 = true then (if (t1174 == t1178) = true then ((sealringlaw32_same.f kj5 t1181 bt1185.1).bind fun t1190 => (if t1190 = true then (if (t1182 == bt1185.2) = true then ((sealringlaw32_lives.f).bind fun t1191 => (some t1191)) else (some false)) else (some false))) else (some false)) else (some false)))) = some r := H
        have A24 := Aside0.mk A240
        clear A240
        replace H := Option.bind_eq_some_iff.mp H
        obtain ⟨⟨t1185, t1186⟩, A250, H⟩ := H
        replace H : ((sealringlaw32_same.f kj5 t1173 t1177).bind fun t1189 => (if t1189 = true then (if (t1174 == t1178) = true then ((sealringlaw32_same.f kj5 t1181 t1185).bind fun t1190 => (if t1190 = true then (if (t1182 == t1186) = true then ((sealringlaw32_lives.f).bind fun t1191 => (some t1191)) else (some false)) else (some false))) else (some false)) else (some false))) = some r := H
        have A25 := Aside0.mk A250
        clear A250
        replace H := Option.bind_eq_some_iff.mp H
        obtain ⟨t1189, A260, H⟩ := H
        replace H : (if t1189 = true then (if (t1174 == t1178) = true then ((sealringlaw32_same.f kj5 t1181 t1185).bind fun t1190 => (if t1190 = true then (if (t1182 == t1186) = true then ((sealringlaw32_lives.f).bind fun t1191 => (some t1191)) else (some false)) else (some false))) else (some false)) else (some false)) = some r := H
        have A26 := Aside0.mk A260
        clear A260
        by_cases c27 : t1189 = true
        · subst c27
          have H1 : (if (t1174 == t1178) = true then ((sealringlaw32_same.f kj5 t1181 t1185).bind fun t1190 => (if t1190 = true then (if (t1182 == t1186) = true then ((sealringlaw32_lives.f).bind fun t1191 => (some t1191)) else (some false)) else (some false))) else (some false)) = some r := by rw [if_pos rfl] at H; exact H
          clear H
          have H := H1
          clear H1
          by_cases c28 : (t1174 == t1178) = true
          · rw [if_pos c28] at H
            have c28b0 : (t1174 == t1178) = true := c28
            (try (have c28b1 : decide (t1174 = t1178) = true := by simpa using c28))
            (try (have c28b2 : (t1174 == t1178) = true := by simpa using c28))
            clear c28
            replace H := Option.bind_eq_some_iff.mp H
            obtain ⟨t1190, A290, H⟩ := H
            replace H : (if t1190 = true then (if (t1182 == t1186) = true then ((sealringlaw32_lives.f).bind fun t1191 => (some t1191)) else (some false)) else (some false)) = some r := H
            have A29 := Aside0.mk A290
            clear A290
            by_cases c30 : t1190 = true
            · subst c30
              have H1 : (if (t1182 == t1186) = true then ((sealringlaw32_lives.f).bind fun t1191 => (some t1191)) else (some false)) = some r := by rw [if_pos rfl] at H; exact H
              clear H
              have H := H1
              clear H1
              by_cases c31 : (t1182 == t1186) = true
              · rw [if_pos c31] at H
                have c31b0 : (t1182 == t1186) = true := c31
                (try (have c31b1 : decide (t1182 = t1186) = true := by simpa using c31))
                (try (have c31b2 : (t1182 == t1186) = true := by simpa using c31))
                clear c31
                replace H := Option.bind_eq_some_iff.mp H
                obtain ⟨t1191, A320, H⟩ := H
                replace H : (some t1191) = some r := H
                have A32 := Aside0.mk A320
                clear A320
                obtain rfl := Option.some.inj H
                go_wp2_with (first | ((with_reducible refine gate_callee (f := 55) rfl ?_); refine goesL_ (some 50) rfl rfl Try.func55 (by kernel_rfl) rfl #[.int .i64 a0, .string a1] rfl (by (try simp only [List.map_toArray, List.map_cons, List.map_nil]); first | done | rfl | (simp only [List.length_drop, List.length_take]; rfl)) ?_; (with_reducible refine (keep_Content.calls a0 a1 t1173 t1174 _ A22.out).mono ?_); rintro e w33 ⟨v1175, rfl, ho0, hb⟩; refine ⟨_, rfl, ?_⟩; have n0_ := Aside0.mk (Kd.R_lower ho0 (below_size (by repeat (first | (with_reducible first | exact HB.out | apply below_alloc | apply pw_below_drewN | apply below_drew1) | exact HB.out)))); have n1_ := Aside0.mk (below_step (by repeat (first | (with_reducible first | exact HB.out | apply below_alloc | apply pw_below_drewN | apply below_drew1) | exact HB.out)) hb); clear HB; have HO1176 := n0_; have HB := n1_; clear n0_ n1_; (try clear hb); (try clear hb2); (try clear hk); (try clear hi); (try clear ho0)) | ((with_reducible refine gate_callee (f := 56) rfl ?_); refine goesL_ (some 56) rfl rfl Try.func56 (by kernel_rfl) rfl #[.int .i64 a0, .string a1] rfl (by (try simp only [List.map_toArray, List.map_cons, List.map_nil]); first | done | rfl | (simp only [List.length_drop, List.length_take]; rfl)) ?_; (with_reducible refine (sealringref32_Content.calls kj5 a0 a1 t1177 t1178 _ A23.out).mono ?_); rintro e w34 ⟨v1179, rfl, ho0, hb⟩; refine ⟨_, rfl, ?_⟩; have n0_ := Aside0.mk (Kd.R_elder' (by (with_reducible repeat (first | apply Kd.R_alloc | apply Kd.R_drewN | apply Kd.R_drew)); exact HO1176.out) (Kd.R_base ho0) hb); have n1_ := Aside0.mk (Kd.R_lower (Kd.R_new' ho0 (Kd.R_lt (by (with_reducible repeat (first | apply Kd.R_alloc | apply Kd.R_drewN | apply Kd.R_drew)); exact HO1176.out))) (below_size (by repeat (first | (with_reducible first | exact HB.out | apply below_alloc | apply pw_below_drewN | apply below_drew1) | exact HB.out)))); have n2_ := Aside0.mk (below_step (by repeat (first | (with_reducible first | exact HB.out | apply below_alloc | apply pw_below_drewN | apply below_drew1) | exact HB.out)) hb); clear HO1176; clear HB; have HO1176 := n0_; have HO1180 := n1_; have HB := n2_; clear n0_ n1_ n2_; (try clear hb); (try clear hb2); (try clear hk); (try clear hi); (try clear ho0)) | ((with_reducible refine gate_callee (f := 57) rfl ?_); refine goesL_ (some 63) rfl rfl Try.func57 (by kernel_rfl) rfl #[.int .i64 a0, .string a1, .string a2] rfl (by (try simp only [List.map_toArray, List.map_cons, List.map_nil]); first | done | rfl | (simp only [List.length_drop, List.length_take]; rfl)) ?_; (with_reducible refine (keep_Inner.calls a0 a1 a2 t1181 t1182 _ A24.out).mono ?_); rintro e w35 ⟨v1183, rfl, ho0, hb⟩; refine ⟨_, rfl, ?_⟩; have n0_ := Aside0.mk (Kd.R_elder' (by (with_reducible repeat (first | apply Kd.R_alloc | apply Kd.R_drewN | apply Kd.R_drew)); exact HO1176.out) (Kd.R_base ho0) hb); have n1_ := Aside0.mk (Kd.R_elder' (by (with_reducible repeat (first | apply Kd.R_alloc | apply Kd.R_drewN | apply Kd.R_drew)); exact HO1180.out) (Kd.R_base ho0) hb); have n2_ := Aside0.mk (Kd.R_lower (Kd.R_new' (Kd.R_new' ho0 (Kd.R_lt (by (with_reducible repeat (first | apply Kd.R_alloc | apply Kd.R_drewN | apply Kd.R_drew)); exact HO1176.out))) (Kd.R_lt (by (with_reducible repeat (first | apply Kd.R_alloc | apply Kd.R_drewN | apply Kd.R_drew)); exact HO1180.out))) (below_size (by repeat (first | (with_reducible first | exact HB.out | apply below_alloc | apply pw_below_drewN | apply below_drew1) | exact HB.out)))); have n3_ := Aside0.mk (below_step (by repeat (first | (with_reducible first | exact HB.out | apply below_alloc | apply pw_below_drewN | apply below_drew1) | exact HB.out)) hb); clear HO1176; clear HO1180; clear HB; have HO1176 := n0_; have HO1180 := n1_; have HO1184 := n2_; have HB := n3_; clear n0_ n1_ n2_ n3_; (try clear hb); (try clear hb2); (try clear hk); (try clear hi); (try clear ho0)) | ((with_reducible refine gate_callee (f := 58) rfl ?_); refine goesL_ (some 70) rfl rfl Try.func58 (by kernel_rfl) rfl #[.int .i64 a0, .string a1, .string a2] rfl (by (try simp only [List.map_toArray, List.map_cons, List.map_nil]); first | done | rfl | (simp only [List.length_drop, List.length_take]; rfl)) ?_; (with_reducible refine (sealringref32_Inner.calls a0 a1 a2 t1185 t1186 _ A25.out).mono ?_); rintro e w36 ⟨v1187, rfl, ho0, hb⟩; refine ⟨_, rfl, ?_⟩; have n0_ := Aside0.mk (Kd.R_elder' (by (with_reducible repeat (first | apply Kd.R_alloc | apply Kd.R_drewN | apply Kd.R_drew)); exact HO1176.out) (Kd.R_base ho0) hb); have n1_ := Aside0.mk (Kd.R_elder' (by (with_reducible repeat (first | apply Kd.R_alloc | apply Kd.R_drewN | apply Kd.R_drew)); exact HO1180.out) (Kd.R_base ho0) hb); have n2_ := Aside0.mk (Kd.R_elder' (by (with_reducible repeat (first | apply Kd.R_alloc | apply Kd.R_drewN | apply Kd.R_drew)); exact HO1184.out) (Kd.R_base ho0) hb); have n3_ := Aside0.mk (Kd.R_lower (Kd.R_new' (Kd.R_new' (Kd.R_new' ho0 (Kd.R_lt (by (with_reducible repeat (first | apply Kd.R_alloc | apply Kd.R_drewN | apply Kd.R_drew)); exact HO1176.out))) (Kd.R_lt (by (with_reducible repeat (first | apply Kd.R_alloc | apply Kd.R_drewN | apply Kd.R_drew)); exact HO1180.out))) (Kd.R_lt (by (with_reducible repeat (first | apply Kd.R_alloc | apply Kd.R_drewN | apply Kd.R_drew)); exact HO1184.out))) (below_size (by repeat (first | (with_reducible first | exact HB.out | apply below_alloc | apply pw_below_drewN | apply below_drew1) | exact HB.out)))); have n4_ := Aside0.mk (below_step (by repeat (first | (with_reducible first | exact HB.out | apply below_alloc | apply pw_below_drewN | apply below_drew1) | exact HB.out)) hb); clear HO1176; clear HO1180; clear HO1184; clear HB; have HO1176 := n0_; have HO1180 := n1_; have HO1184 := n2_; have HO1188 := n3_; have HB := n4_; clear n0_ n1_ n2_ n3_ n4_; (try clear hb); (try clear hb2); (try clear hk); (try clear hi); (try clear ho0); obtain ⟨Ao37, co37, eo37⟩ := Kd.R_slice HO1176.out; subst eo37; obtain ⟨Ao38, co38, eo38⟩ := Kd.R_slice HO1180.out; subst eo38) | ((with_reducible refine gate_callee (f := 54) rfl ?_); refine goesL_ (some 75) rfl rfl Try.func54 (by kernel_rfl) rfl #[.slice Ao37 t1173.length co37, .slice Ao38 t1177.length co38] rfl (by (try simp only [List.map_toArray, List.map_cons, List.map_nil]); first | done | rfl | (simp only [List.length_drop, List.length_take]; rfl)) ?_; (with_reducible refine (sealringlaw32_same.calls kj5 _ _ t1173 _ _ t1177 true _ ?side1 ?side2 ?side3 ?side4 A26.out).mono ?_); (case side1 => repeat (first | exact (Kd.R_reads' HO1176.out).2.2 | (with_reducible refine Kd.C_alloc ?_ _) | (with_reducible refine Kd.C_drewN ?_ _) | (with_reducible refine Kd.C_drew ?_))); (case side2 => exact (Kd.R_reads' HO1176.out).2.1); (case side3 => repeat (first | exact (Kd.R_reads' HO1180.out).2.2 | (with_reducible refine Kd.C_alloc ?_ _) | (with_reducible refine Kd.C_drewN ?_ _) | (with_reducible refine Kd.C_drew ?_))); (case side4 => exact (Kd.R_reads' HO1180.out).2.1); rintro e w' ⟨rfl, ⟨nd, rfl⟩⟩; refine ⟨_, rfl, ?_⟩; obtain ⟨Ao39, co39, eo39⟩ := Kd.R_slice HO1184.out; subst eo39; obtain ⟨Ao40, co40, eo40⟩ := Kd.R_slice HO1188.out; subst eo40) | (go_at_call 54; (with_reducible refine (sealringlaw32_same.calls kj5 _ _ t1181 _ _ t1185 true _ ?side1 ?side2 ?side3 ?side4 A29.out).mono ?_); (case side1 => repeat (first | exact (Kd.R_reads' HO1184.out).2.2 | (with_reducible refine Kd.C_alloc ?_ _) | (with_reducible refine Kd.C_drewN ?_ _) | (with_reducible refine Kd.C_drew ?_))); (case side2 => exact (Kd.R_reads' HO1184.out).2.1); (case side3 => repeat (first | exact (Kd.R_reads' HO1188.out).2.2 | (with_reducible refine Kd.C_alloc ?_ _) | (with_reducible refine Kd.C_drewN ?_ _) | (with_reducible refine Kd.C_drew ?_))); (case side4 => exact (Kd.R_reads' HO1188.out).2.1); rintro e w' ⟨rfl, ⟨nd, rfl⟩⟩) | (go_at_call 59; (with_reducible refine (sealringlaw32_lives.calls  t1191 _ A32.out).mono ?_); rintro e w41 ⟨rfl, hb⟩; have n0_ := Aside0.mk (Kd.R_below (by (with_reducible repeat (first | apply Kd.R_alloc | apply Kd.R_drewN | apply Kd.R_drew)); exact HO1176.out) hb); have n1_ := Aside0.mk (Kd.R_below (by (with_reducible repeat (first | apply Kd.R_alloc | apply Kd.R_drewN | apply Kd.R_drew)); exact HO1180.out) hb); have n2_ := Aside0.mk (Kd.R_below (by (with_reducible repeat (first | apply Kd.R_alloc | apply Kd.R_drewN | apply Kd.R_drew)); exact HO1184.out) hb); have n3_ := Aside0.mk (Kd.R_below (by (with_reducible repeat (first | apply Kd.R_alloc | apply Kd.R_drewN | apply Kd.R_drew)); exact HO1188.out) hb); have n4_ := Aside0.mk (below_step (by repeat (first | (with_reducible first | exact HB.out | apply below_alloc | apply pw_below_drewN | apply below_drew1) | exact HB.out)) hb); clear HO1176; clear HO1180; clear HO1184; clear HO1188; clear HB; have HO1176 := n0_; have HO1180 := n1_; have HO1184 := n2_; have HO1188 := n3_; have HB := n4_; clear n0_ n1_ n2_ n3_ n4_; (try clear hb); (try clear hb2); (try clear hk); (try clear hi)))
                go_ret
                exact ⟨by first | rfl | (simp [errW_none, errW_some] <;> rfl) | (simp [*, errW_none, errW_some] <;> rfl), by repeat (first | (with_reducible first | exact HB.out | apply below_alloc | apply pw_below_drewN | apply below_drew1) | exact HB.out)⟩
              · rw [if_neg c31] at H
                have c31b0 : (t1182 == t1186) = false := by simpa using c31
                (try (have c31b1 : decide (t1182 = t1186) = false := by simpa using c31))
                (try (have c31b2 : (t1182 == t1186) = false := by simpa using c31))
                (try (have c31b3 : ¬ (t1182 = t1186) := by simpa using c31))
                clear c31
                obtain rfl := Option.some.inj H
                go_wp2_with (first | ((with_reducible refine gate_callee (f := 55) rfl ?_); refine goesL_ (some 50) rfl rfl Try.func55 (by kernel_rfl) rfl #[.int .i64 a0, .string a1] rfl (by (try simp only [List.map_toArray, List.map_cons, List.map_nil]); first | done | rfl | (simp only [List.length_drop, List.length_take]; rfl)) ?_; (with_reducible refine (keep_Content.calls a0 a1 t1173 t1174 _ A22.out).mono ?_); rintro e w42 ⟨v1175, rfl, ho0, hb⟩; refine ⟨_, rfl, ?_⟩; have n0_ := Aside0.mk (Kd.R_lower ho0 (below_size (by repeat (first | (with_reducible first | exact HB.out | apply below_alloc | apply pw_below_drewN | apply below_drew1) | exact HB.out)))); have n1_ := Aside0.mk (below_step (by repeat (first | (with_reducible first | exact HB.out | apply below_alloc | apply pw_below_drewN | apply below_drew1) | exact HB.out)) hb); clear HB; have HO1176 := n0_; have HB := n1_; clear n0_ n1_; (try clear hb); (try clear hb2); (try clear hk); (try clear hi); (try clear ho0)) | ((with_reducible refine gate_callee (f := 56) rfl ?_); refine goesL_ (some 56) rfl rfl Try.func56 (by kernel_rfl) rfl #[.int .i64 a0, .string a1] rfl (by (try simp only [List.map_toArray, List.map_cons, List.map_nil]); first | done | rfl | (simp only [List.length_drop, List.length_take]; rfl)) ?_; (with_reducible refine (sealringref32_Content.calls kj5 a0 a1 t1177 t1178 _ A23.out).mono ?_); rintro e w43 ⟨v1179, rfl, ho0, hb⟩; refine ⟨_, rfl, ?_⟩; have n0_ := Aside0.mk (Kd.R_elder' (by (with_reducible repeat (first | apply Kd.R_alloc | apply Kd.R_drewN | apply Kd.R_drew)); exact HO1176.out) (Kd.R_base ho0) hb); have n1_ := Aside0.mk (Kd.R_lower (Kd.R_new' ho0 (Kd.R_lt (by (with_reducible repeat (first | apply Kd.R_alloc | apply Kd.R_drewN | apply Kd.R_drew)); exact HO1176.out))) (below_size (by repeat (first | (with_reducible first | exact HB.out | apply below_alloc | apply pw_below_drewN | apply below_drew1) | exact HB.out)))); have n2_ := Aside0.mk (below_step (by repeat (first | (with_reducible first | exact HB.out | apply below_alloc | apply pw_below_drewN | apply below_drew1) | exact HB.out)) hb); clear HO1176; clear HB; have HO1176 := n0_; have HO1180 := n1_; have HB := n2_; clear n0_ n1_ n2_; (try clear hb); (try clear hb2); (try clear hk); (try clear hi); (try clear ho0)) | ((with_reducible refine gate_callee (f := 57) rfl ?_); refine goesL_ (some 63) rfl rfl Try.func57 (by kernel_rfl) rfl #[.int .i64 a0, .string a1, .string a2] rfl (by (try simp only [List.map_toArray, List.map_cons, List.map_nil]); first | done | rfl | (simp only [List.length_drop, List.length_take]; rfl)) ?_; (with_reducible refine (keep_Inner.calls a0 a1 a2 t1181 t1182 _ A24.out).mono ?_); rintro e w44 ⟨v1183, rfl, ho0, hb⟩; refine ⟨_, rfl, ?_⟩; have n0_ := Aside0.mk (Kd.R_elder' (by (with_reducible repeat (first | apply Kd.R_alloc | apply Kd.R_drewN | apply Kd.R_drew)); exact HO1176.out) (Kd.R_base ho0) hb); have n1_ := Aside0.mk (Kd.R_elder' (by (with_reducible repeat (first | apply Kd.R_alloc | apply Kd.R_drewN | apply Kd.R_drew)); exact HO1180.out) (Kd.R_base ho0) hb); have n2_ := Aside0.mk (Kd.R_lower (Kd.R_new' (Kd.R_new' ho0 (Kd.R_lt (by (with_reducible repeat (first | apply Kd.R_alloc | apply Kd.R_drewN | apply Kd.R_drew)); exact HO1176.out))) (Kd.R_lt (by (with_reducible repeat (first | apply Kd.R_alloc | apply Kd.R_drewN | apply Kd.R_drew)); exact HO1180.out))) (below_size (by repeat (first | (with_reducible first | exact HB.out | apply below_alloc | apply pw_below_drewN | apply below_drew1) | exact HB.out)))); have n3_ := Aside0.mk (below_step (by repeat (first | (with_reducible first | exact HB.out | apply below_alloc | apply pw_below_drewN | apply below_drew1) | exact HB.out)) hb); clear HO1176; clear HO1180; clear HB; have HO1176 := n0_; have HO1180 := n1_; have HO1184 := n2_; have HB := n3_; clear n0_ n1_ n2_ n3_; (try clear hb); (try clear hb2); (try clear hk); (try clear hi); (try clear ho0)) | ((with_reducible refine gate_callee (f := 58) rfl ?_); refine goesL_ (some 70) rfl rfl Try.func58 (by kernel_rfl) rfl #[.int .i64 a0, .string a1, .string a2] rfl (by (try simp only [List.map_toArray, List.map_cons, List.map_nil]); first | done | rfl | (simp only [List.length_drop, List.length_take]; rfl)) ?_; (with_reducible refine (sealringref32_Inner.calls a0 a1 a2 t1185 t1186 _ A25.out).mono ?_); rintro e w45 ⟨v1187, rfl, ho0, hb⟩; refine ⟨_, rfl, ?_⟩; have n0_ := Aside0.mk (Kd.R_elder' (by (with_reducible repeat (first | apply Kd.R_alloc | apply Kd.R_drewN | apply Kd.R_drew)); exact HO1176.out) (Kd.R_base ho0) hb); have n1_ := Aside0.mk (Kd.R_elder' (by (with_reducible repeat (first | apply Kd.R_alloc | apply Kd.R_drewN | apply Kd.R_drew)); exact HO1180.out) (Kd.R_base ho0) hb); have n2_ := Aside0.mk (Kd.R_elder' (by (with_reducible repeat (first | apply Kd.R_alloc | apply Kd.R_drewN | apply Kd.R_drew)); exact HO1184.out) (Kd.R_base ho0) hb); have n3_ := Aside0.mk (Kd.R_lower (Kd.R_new' (Kd.R_new' (Kd.R_new' ho0 (Kd.R_lt (by (with_reducible repeat (first | apply Kd.R_alloc | apply Kd.R_drewN | apply Kd.R_drew)); exact HO1176.out))) (Kd.R_lt (by (with_reducible repeat (first | apply Kd.R_alloc | apply Kd.R_drewN | apply Kd.R_drew)); exact HO1180.out))) (Kd.R_lt (by (with_reducible repeat (first | apply Kd.R_alloc | apply Kd.R_drewN | apply Kd.R_drew)); exact HO1184.out))) (below_size (by repeat (first | (with_reducible first | exact HB.out | apply below_alloc | apply pw_below_drewN | apply below_drew1) | exact HB.out)))); have n4_ := Aside0.mk (below_step (by repeat (first | (with_reducible first | exact HB.out | apply below_alloc | apply pw_below_drewN | apply below_drew1) | exact HB.out)) hb); clear HO1176; clear HO1180; clear HO1184; clear HB; have HO1176 := n0_; have HO1180 := n1_; have HO1184 := n2_; have HO1188 := n3_; have HB := n4_; clear n0_ n1_ n2_ n3_ n4_; (try clear hb); (try clear hb2); (try clear hk); (try clear hi); (try clear ho0); obtain ⟨Ao46, co46, eo46⟩ := Kd.R_slice HO1176.out; subst eo46; obtain ⟨Ao47, co47, eo47⟩ := Kd.R_slice HO1180.out; subst eo47) | ((with_reducible refine gate_callee (f := 54) rfl ?_); refine goesL_ (some 75) rfl rfl Try.func54 (by kernel_rfl) rfl #[.slice Ao46 t1173.length co46, .slice Ao47 t1177.length co47] rfl (by (try simp only [List.map_toArray, List.map_cons, List.map_nil]); first | done | rfl | (simp only [List.length_drop, List.length_take]; rfl)) ?_; (with_reducible refine (sealringlaw32_same.calls kj5 _ _ t1173 _ _ t1177 true _ ?side1 ?side2 ?side3 ?side4 A26.out).mono ?_); (case side1 => repeat (first | exact (Kd.R_reads' HO1176.out).2.2 | (with_reducible refine Kd.C_alloc ?_ _) | (with_reducible refine Kd.C_drewN ?_ _) | (with_reducible refine Kd.C_drew ?_))); (case side2 => exact (Kd.R_reads' HO1176.out).2.1); (case side3 => repeat (first | exact (Kd.R_reads' HO1180.out).2.2 | (with_reducible refine Kd.C_alloc ?_ _) | (with_reducible refine Kd.C_drewN ?_ _) | (with_reducible refine Kd.C_drew ?_))); (case side4 => exact (Kd.R_reads' HO1180.out).2.1); rintro e w' ⟨rfl, ⟨nd, rfl⟩⟩; refine ⟨_, rfl, ?_⟩; obtain ⟨Ao48, co48, eo48⟩ := Kd.R_slice HO1184.out; subst eo48; obtain ⟨Ao49, co49, eo49⟩ := Kd.R_slice HO1188.out; subst eo49) | (go_at_call 54; (with_reducible refine (sealringlaw32_same.calls kj5 _ _ t1181 _ _ t1185 true _ ?side1 ?side2 ?side3 ?side4 A29.out).mono ?_); (case side1 => repeat (first | exact (Kd.R_reads' HO1184.out).2.2 | (with_reducible refine Kd.C_alloc ?_ _) | (with_reducible refine Kd.C_drewN ?_ _) | (with_reducible refine Kd.C_drew ?_))); (case side2 => exact (Kd.R_reads' HO1184.out).2.1); (case side3 => repeat (first | exact (Kd.R_reads' HO1188.out).2.2 | (with_reducible refine Kd.C_alloc ?_ _) | (with_reducible refine Kd.C_drewN ?_ _) | (with_reducible refine Kd.C_drew ?_))); (case side4 => exact (Kd.R_reads' HO1188.out).2.1); rintro e w' ⟨rfl, ⟨nd, rfl⟩⟩))
                go_ret
                exact ⟨by first | rfl | (simp [errW_none, errW_some] <;> rfl) | (simp [*, errW_none, errW_some] <;> rfl), by repeat (first | (with_reducible first | exact HB.out | apply below_alloc | apply pw_below_drewN | apply below_drew1) | exact HB.out)⟩
            · replace c30 := Bool.eq_false_iff.mpr c30
              subst c30
              have H1 : (some false) = some r := by rw [if_neg (show ¬ (false = true) by decide)] at H; exact H
              clear H
              have H := H1
              clear H1
              obtain rfl := Option.some.inj H
              go_wp2_with (first | ((with_reducible refine gate_callee (f := 55) rfl ?_); refine goesL_ (some 50) rfl rfl Try.func55 (by kernel_rfl) rfl #[.int .i64 a0, .string a1] rfl (by (try simp only [List.map_toArray, List.map_cons, List.map_nil]); first | done | rfl | (simp only [List.length_drop, List.length_take]; rfl)) ?_; (with_reducible refine (keep_Content.calls a0 a1 t1173 t1174 _ A22.out).mono ?_); rintro e w50 ⟨v1175, rfl, ho0, hb⟩; refine ⟨_, rfl, ?_⟩; have n0_ := Aside0.mk (Kd.R_lower ho0 (below_size (by repeat (first | (with_reducible first | exact HB.out | apply below_alloc | apply pw_below_drewN | apply below_drew1) | exact HB.out)))); have n1_ := Aside0.mk (below_step (by repeat (first | (with_reducible first | exact HB.out | apply below_alloc | apply pw_below_drewN | apply below_drew1) | exact HB.out)) hb); clear HB; have HO1176 := n0_; have HB := n1_; clear n0_ n1_; (try clear hb); (try clear hb2); (try clear hk); (try clear hi); (try clear ho0)) | ((with_reducible refine gate_callee (f := 56) rfl ?_); refine goesL_ (some 56) rfl rfl Try.func56 (by kernel_rfl) rfl #[.int .i64 a0, .string a1] rfl (by (try simp only [List.map_toArray, List.map_cons, List.map_nil]); first | done | rfl | (simp only [List.length_drop, List.length_take]; rfl)) ?_; (with_reducible refine (sealringref32_Content.calls kj5 a0 a1 t1177 t1178 _ A23.out).mono ?_); rintro e w51 ⟨v1179, rfl, ho0, hb⟩; refine ⟨_, rfl, ?_⟩; have n0_ := Aside0.mk (Kd.R_elder' (by (with_reducible repeat (first | apply Kd.R_alloc | apply Kd.R_drewN | apply Kd.R_drew)); exact HO1176.out) (Kd.R_base ho0) hb); have n1_ := Aside0.mk (Kd.R_lower (Kd.R_new' ho0 (Kd.R_lt (by (with_reducible repeat (first | apply Kd.R_alloc | apply Kd.R_drewN | apply Kd.R_drew)); exact HO1176.out))) (below_size (by repeat (first | (with_reducible first | exact HB.out | apply below_alloc | apply pw_below_drewN | apply below_drew1) | exact HB.out)))); have n2_ := Aside0.mk (below_step (by repeat (first | (with_reducible first | exact HB.out | apply below_alloc | apply pw_below_drewN | apply below_drew1) | exact HB.out)) hb); clear HO1176; clear HB; have HO1176 := n0_; have HO1180 := n1_; have HB := n2_; clear n0_ n1_ n2_; (try clear hb); (try clear hb2); (try clear hk); (try clear hi); (try clear ho0)) | ((with_reducible refine gate_callee (f := 57) rfl ?_); refine goesL_ (some 63) rfl rfl Try.func57 (by kernel_rfl) rfl #[.int .i64 a0, .string a1, .string a2] rfl (by (try simp only [List.map_toArray, List.map_cons, List.map_nil]); first | done | rfl | (simp only [List.length_drop, List.length_take]; rfl)) ?_; (with_reducible refine (keep_Inner.calls a0 a1 a2 t1181 t1182 _ A24.out).mono ?_); rintro e w52 ⟨v1183, rfl, ho0, hb⟩; refine ⟨_, rfl, ?_⟩; have n0_ := Aside0.mk (Kd.R_elder' (by (with_reducible repeat (first | apply Kd.R_alloc | apply Kd.R_drewN | apply Kd.R_drew)); exact HO1176.out) (Kd.R_base ho0) hb); have n1_ := Aside0.mk (Kd.R_elder' (by (with_reducible repeat (first | apply Kd.R_alloc | apply Kd.R_drewN | apply Kd.R_drew)); exact HO1180.out) (Kd.R_base ho0) hb); have n2_ := Aside0.mk (Kd.R_lower (Kd.R_new' (Kd.R_new' ho0 (Kd.R_lt (by (with_reducible repeat (first | apply Kd.R_alloc | apply Kd.R_drewN | apply Kd.R_drew)); exact HO1176.out))) (Kd.R_lt (by (with_reducible repeat (first | apply Kd.R_alloc | apply Kd.R_drewN | apply Kd.R_drew)); exact HO1180.out))) (below_size (by repeat (first | (with_reducible first | exact HB.out | apply below_alloc | apply pw_below_drewN | apply below_drew1) | exact HB.out)))); have n3_ := Aside0.mk (below_step (by repeat (first | (with_reducible first | exact HB.out | apply below_alloc | apply pw_below_drewN | apply below_drew1) | exact HB.out)) hb); clear HO1176; clear HO1180; clear HB; have HO1176 := n0_; have HO1180 := n1_; have HO1184 := n2_; have HB := n3_; clear n0_ n1_ n2_ n3_; (try clear hb); (try clear hb2); (try clear hk); (try clear hi); (try clear ho0)) | ((with_reducible refine gate_callee (f := 58) rfl ?_); refine goesL_ (some 70) rfl rfl Try.func58 (by kernel_rfl) rfl #[.int .i64 a0, .string a1, .string a2] rfl (by (try simp only [List.map_toArray, List.map_cons, List.map_nil]); first | done | rfl | (simp only [List.length_drop, List.length_take]; rfl)) ?_; (with_reducible refine (sealringref32_Inner.calls a0 a1 a2 t1185 t1186 _ A25.out).mono ?_); rintro e w53 ⟨v1187, rfl, ho0, hb⟩; refine ⟨_, rfl, ?_⟩; have n0_ := Aside0.mk (Kd.R_elder' (by (with_reducible repeat (first | apply Kd.R_alloc | apply Kd.R_drewN | apply Kd.R_drew)); exact HO1176.out) (Kd.R_base ho0) hb); have n1_ := Aside0.mk (Kd.R_elder' (by (with_reducible repeat (first | apply Kd.R_alloc | apply Kd.R_drewN | apply Kd.R_drew)); exact HO1180.out) (Kd.R_base ho0) hb); have n2_ := Aside0.mk (Kd.R_elder' (by (with_reducible repeat (first | apply Kd.R_alloc | apply Kd.R_drewN | apply Kd.R_drew)); exact HO1184.out) (Kd.R_base ho0) hb); have n3_ := Aside0.mk (Kd.R_lower (Kd.R_new' (Kd.R_new' (Kd.R_new' ho0 (Kd.R_lt (by (with_reducible repeat (first | apply Kd.R_alloc | apply Kd.R_drewN | apply Kd.R_drew)); exact HO1176.out))) (Kd.R_lt (by (with_reducible repeat (first | apply Kd.R_alloc | apply Kd.R_drewN | apply Kd.R_drew)); exact HO1180.out))) (Kd.R_lt (by (with_reducible repeat (first | apply Kd.R_alloc | apply Kd.R_drewN | apply Kd.R_drew)); exact HO1184.out))) (below_size (by repeat (first | (with_reducible first | exact HB.out | apply below_alloc | apply pw_below_drewN | apply below_drew1) | exact HB.out)))); have n4_ := Aside0.mk (below_step (by repeat (first | (with_reducible first | exact HB.out | apply below_alloc | apply pw_below_drewN | apply below_drew1) | exact HB.out)) hb); clear HO1176; clear HO1180; clear HO1184; clear HB; have HO1176 := n0_; have HO1180 := n1_; have HO1184 := n2_; have HO1188 := n3_; have HB := n4_; clear n0_ n1_ n2_ n3_ n4_; (try clear hb); (try clear hb2); (try clear hk); (try clear hi); (try clear ho0); obtain ⟨Ao54, co54, eo54⟩ := Kd.R_slice HO1176.out; subst eo54; obtain ⟨Ao55, co55, eo55⟩ := Kd.R_slice HO1180.out; subst eo55) | ((with_reducible refine gate_callee (f := 54) rfl ?_); refine goesL_ (some 75) rfl rfl Try.func54 (by kernel_rfl) rfl #[.slice Ao54 t1173.length co54, .slice Ao55 t1177.length co55] rfl (by (try simp only [List.map_toArray, List.map_cons, List.map_nil]); first | done | rfl | (simp only [List.length_drop, List.length_take]; rfl)) ?_; (with_reducible refine (sealringlaw32_same.calls kj5 _ _ t1173 _ _ t1177 true _ ?side1 ?side2 ?side3 ?side4 A26.out).mono ?_); (case side1 => repeat (first | exact (Kd.R_reads' HO1176.out).2.2 | (with_reducible refine Kd.C_alloc ?_ _) | (with_reducible refine Kd.C_drewN ?_ _) | (with_reducible refine Kd.C_drew ?_))); (case side2 => exact (Kd.R_reads' HO1176.out).2.1); (case side3 => repeat (first | exact (Kd.R_reads' HO1180.out).2.2 | (with_reducible refine Kd.C_alloc ?_ _) | (with_reducible refine Kd.C_drewN ?_ _) | (with_reducible refine Kd.C_drew ?_))); (case side4 => exact (Kd.R_reads' HO1180.out).2.1); rintro e w' ⟨rfl, ⟨nd, rfl⟩⟩; refine ⟨_, rfl, ?_⟩; obtain ⟨Ao56, co56, eo56⟩ := Kd.R_slice HO1184.out; subst eo56; obtain ⟨Ao57, co57, eo57⟩ := Kd.R_slice HO1188.out; subst eo57) | (go_at_call 54; (with_reducible refine (sealringlaw32_same.calls kj5 _ _ t1181 _ _ t1185 false _ ?side1 ?side2 ?side3 ?side4 A29.out).mono ?_); (case side1 => repeat (first | exact (Kd.R_reads' HO1184.out).2.2 | (with_reducible refine Kd.C_alloc ?_ _) | (with_reducible refine Kd.C_drewN ?_ _) | (with_reducible refine Kd.C_drew ?_))); (case side2 => exact (Kd.R_reads' HO1184.out).2.1); (case side3 => repeat (first | exact (Kd.R_reads' HO1188.out).2.2 | (with_reducible refine Kd.C_alloc ?_ _) | (with_reducible refine Kd.C_drewN ?_ _) | (with_reducible refine Kd.C_drew ?_))); (case side4 => exact (Kd.R_reads' HO1188.out).2.1); rintro e w' ⟨rfl, ⟨nd, rfl⟩⟩))
              go_ret
              exact ⟨by first | rfl | (simp [errW_none, errW_some] <;> rfl) | (simp [*, errW_none, errW_some] <;> rfl), by repeat (first | (with_reducible first | exact HB.out | apply below_alloc | apply pw_below_drewN | apply below_drew1) | exact HB.out)⟩
          · rw [if_neg c28] at H
            have c28b0 : (t1174 == t1178) = false := by simpa using c28
            (try (have c28b1 : decide (t1174 = t1178) = false := by simpa using c28))
            (try (have c28b2 : (t1174 == t1178) = false := by simpa using c28))
            (try (have c28b3 : ¬ (t1174 = t1178) := by simpa using c28))
            clear c28
            obtain rfl := Option.some.inj H
            go_wp2_with (first | ((with_reducible refine gate_callee (f := 55) rfl ?_); refine goesL_ (some 50) rfl rfl Try.func55 (by kernel_rfl) rfl #[.int .i64 a0, .string a1] rfl (by (try simp only [List.map_toArray, List.map_cons, List.map_nil]); first | done | rfl | (simp only [List.length_drop, List.length_take]; rfl)) ?_; (with_reducible refine (keep_Content.calls a0 a1 t1173 t1174 _ A22.out).mono ?_); rintro e w58 ⟨v1175, rfl, ho0, hb⟩; refine ⟨_, rfl, ?_⟩; have n0_ := Aside0.mk (Kd.R_lower ho0 (below_size (by repeat (first | (with_reducible first | exact HB.out | apply below_alloc | apply pw_below_drewN | apply below_drew1) | exact HB.out)))); have n1_ := Aside0.mk (below_step (by repeat (first | (with_reducible first | exact HB.out | apply below_alloc | apply pw_below_drewN | apply below_drew1) | exact HB.out)) hb); clear HB; have HO1176 := n0_; have HB := n1_; clear n0_ n1_; (try clear hb); (try clear hb2); (try clear hk); (try clear hi); (try clear ho0)) | ((with_reducible refine gate_callee (f := 56) rfl ?_); refine goesL_ (some 56) rfl rfl Try.func56 (by kernel_rfl) rfl #[.int .i64 a0, .string a1] rfl (by (try simp only [List.map_toArray, List.map_cons, List.map_nil]); first | done | rfl | (simp only [List.length_drop, List.length_take]; rfl)) ?_; (with_reducible refine (sealringref32_Content.calls kj5 a0 a1 t1177 t1178 _ A23.out).mono ?_); rintro e w59 ⟨v1179, rfl, ho0, hb⟩; refine ⟨_, rfl, ?_⟩; have n0_ := Aside0.mk (Kd.R_elder' (by (with_reducible repeat (first | apply Kd.R_alloc | apply Kd.R_drewN | apply Kd.R_drew)); exact HO1176.out) (Kd.R_base ho0) hb); have n1_ := Aside0.mk (Kd.R_lower (Kd.R_new' ho0 (Kd.R_lt (by (with_reducible repeat (first | apply Kd.R_alloc | apply Kd.R_drewN | apply Kd.R_drew)); exact HO1176.out))) (below_size (by repeat (first | (with_reducible first | exact HB.out | apply below_alloc | apply pw_below_drewN | apply below_drew1) | exact HB.out)))); have n2_ := Aside0.mk (below_step (by repeat (first | (with_reducible first | exact HB.out | apply below_alloc | apply pw_below_drewN | apply below_drew1) | exact HB.out)) hb); clear HO1176; clear HB; have HO1176 := n0_; have HO1180 := n1_; have HB := n2_; clear n0_ n1_ n2_; (try clear hb); (try clear hb2); (try clear hk); (try clear hi); (try clear ho0)) | ((with_reducible refine gate_callee (f := 57) rfl ?_); refine goesL_ (some 63) rfl rfl Try.func57 (by kernel_rfl) rfl #[.int .i64 a0, .string a1, .string a2] rfl (by (try simp only [List.map_toArray, List.map_cons, List.map_nil]); first | done | rfl | (simp only [List.length_drop, List.length_take]; rfl)) ?_; (with_reducible refine (keep_Inner.calls a0 a1 a2 t1181 t1182 _ A24.out).mono ?_); rintro e w60 ⟨v1183, rfl, ho0, hb⟩; refine ⟨_, rfl, ?_⟩; have n0_ := Aside0.mk (Kd.R_elder' (by (with_reducible repeat (first | apply Kd.R_alloc | apply Kd.R_drewN | apply Kd.R_drew)); exact HO1176.out) (Kd.R_base ho0) hb); have n1_ := Aside0.mk (Kd.R_elder' (by (with_reducible repeat (first | apply Kd.R_alloc | apply Kd.R_drewN | apply Kd.R_drew)); exact HO1180.out) (Kd.R_base ho0) hb); have n2_ := Aside0.mk (Kd.R_lower (Kd.R_new' (Kd.R_new' ho0 (Kd.R_lt (by (with_reducible repeat (first | apply Kd.R_alloc | apply Kd.R_drewN | apply Kd.R_drew)); exact HO1176.out))) (Kd.R_lt (by (with_reducible repeat (first | apply Kd.R_alloc | apply Kd.R_drewN | apply Kd.R_drew)); exact HO1180.out))) (below_size (by repeat (first | (with_reducible first | exact HB.out | apply below_alloc | apply pw_below_drewN | apply below_drew1) | exact HB.out)))); have n3_ := Aside0.mk (below_step (by repeat (first | (with_reducible first | exact HB.out | apply below_alloc | apply pw_below_drewN | apply below_drew1) | exact HB.out)) hb); clear HO1176; clear HO1180; clear HB; have HO1176 := n0_; have HO1180 := n1_; have HO1184 := n2_; have HB := n3_; clear n0_ n1_ n2_ n3_; (try clear hb); (try clear hb2); (try clear hk); (try clear hi); (try clear ho0)) | ((with_reducible refine gate_callee (f := 58) rfl ?_); refine goesL_ (some 70) rfl rfl Try.func58 (by kernel_rfl) rfl #[.int .i64 a0, .string a1, .string a2] rfl (by (try simp only [List.map_toArray, List.map_cons, List.map_nil]); first | done | rfl | (simp only [List.length_drop, List.length_take]; rfl)) ?_; (with_reducible refine (sealringref32_Inner.calls a0 a1 a2 t1185 t1186 _ A25.out).mono ?_); rintro e w61 ⟨v1187, rfl, ho0, hb⟩; refine ⟨_, rfl, ?_⟩; have n0_ := Aside0.mk (Kd.R_elder' (by (with_reducible repeat (first | apply Kd.R_alloc | apply Kd.R_drewN | apply Kd.R_drew)); exact HO1176.out) (Kd.R_base ho0) hb); have n1_ := Aside0.mk (Kd.R_elder' (by (with_reducible repeat (first | apply Kd.R_alloc | apply Kd.R_drewN | apply Kd.R_drew)); exact HO1180.out) (Kd.R_base ho0) hb); have n2_ := Aside0.mk (Kd.R_elder' (by (with_reducible repeat (first | apply Kd.R_alloc | apply Kd.R_drewN | apply Kd.R_drew)); exact HO1184.out) (Kd.R_base ho0) hb); have n3_ := Aside0.mk (Kd.R_lower (Kd.R_new' (Kd.R_new' (Kd.R_new' ho0 (Kd.R_lt (by (with_reducible repeat (first | apply Kd.R_alloc | apply Kd.R_drewN | apply Kd.R_drew)); exact HO1176.out))) (Kd.R_lt (by (with_reducible repeat (first | apply Kd.R_alloc | apply Kd.R_drewN | apply Kd.R_drew)); exact HO1180.out))) (Kd.R_lt (by (with_reducible repeat (first | apply Kd.R_alloc | apply Kd.R_drewN | apply Kd.R_drew)); exact HO1184.out))) (below_size (by repeat (first | (with_reducible first | exact HB.out | apply below_alloc | apply pw_below_drewN | apply below_drew1) | exact HB.out)))); have n4_ := Aside0.mk (below_step (by repeat (first | (with_reducible first | exact HB.out | apply below_alloc | apply pw_below_drewN | apply below_drew1) | exact HB.out)) hb); clear HO1176; clear HO1180; clear HO1184; clear HB; have HO1176 := n0_; have HO1180 := n1_; have HO1184 := n2_; have HO1188 := n3_; have HB := n4_; clear n0_ n1_ n2_ n3_ n4_; (try clear hb); (try clear hb2); (try clear hk); (try clear hi); (try clear ho0); obtain ⟨Ao62, co62, eo62⟩ := Kd.R_slice HO1176.out; subst eo62; obtain ⟨Ao63, co63, eo63⟩ := Kd.R_slice HO1180.out; subst eo63) | ((with_reducible refine gate_callee (f := 54) rfl ?_); refine goesL_ (some 75) rfl rfl Try.func54 (by kernel_rfl) rfl #[.slice Ao62 t1173.length co62, .slice Ao63 t1177.length co63] rfl (by (try simp only [List.map_toArray, List.map_cons, List.map_nil]); first | done | rfl | (simp only [List.length_drop, List.length_take]; rfl)) ?_; (with_reducible refine (sealringlaw32_same.calls kj5 _ _ t1173 _ _ t1177 true _ ?side1 ?side2 ?side3 ?side4 A26.out).mono ?_); (case side1 => repeat (first | exact (Kd.R_reads' HO1176.out).2.2 | (with_reducible refine Kd.C_alloc ?_ _) | (with_reducible refine Kd.C_drewN ?_ _) | (with_reducible refine Kd.C_drew ?_))); (case side2 => exact (Kd.R_reads' HO1176.out).2.1); (case side3 => repeat (first | exact (Kd.R_reads' HO1180.out).2.2 | (with_reducible refine Kd.C_alloc ?_ _) | (with_reducible refine Kd.C_drewN ?_ _) | (with_reducible refine Kd.C_drew ?_))); (case side4 => exact (Kd.R_reads' HO1180.out).2.1); rintro e w' ⟨rfl, ⟨nd, rfl⟩⟩; refine ⟨_, rfl, ?_⟩))
            go_ret
            exact ⟨by first | rfl | (simp [errW_none, errW_some] <;> rfl) | (simp [*, errW_none, errW_some] <;> rfl), by repeat (first | (with_reducible first | exact HB.out | apply below_alloc | apply pw_below_drewN | apply below_drew1) | exact HB.out)⟩
        · replace c27 := Bool.eq_false_iff.mpr c27
          subst c27
          have H1 : (some false) = some r := by rw [if_neg (show ¬ (false = true) by decide)] at H; exact H
          clear H
          have H := H1
          clear H1
          obtain rfl := Option.some.inj H
          go_wp2_with (first | ((with_reducible refine gate_callee (f := 55) rfl ?_); refine goesL_ (some 50) rfl rfl Try.func55 (by kernel_rfl) rfl #[.int .i64 a0, .string a1] rfl (by (try simp only [List.map_toArray, List.map_cons, List.map_nil]); first | done | rfl | (simp only [List.length_drop, List.length_take]; rfl)) ?_; (with_reducible refine (keep_Content.calls a0 a1 t1173 t1174 _ A22.out).mono ?_); rintro e w64 ⟨v1175, rfl, ho0, hb⟩; refine ⟨_, rfl, ?_⟩; have n0_ := Aside0.mk (Kd.R_lower ho0 (below_size (by repeat (first | (with_reducible first | exact HB.out | apply below_alloc | apply pw_below_drewN | apply below_drew1) | exact HB.out)))); have n1_ := Aside0.mk (below_step (by repeat (first | (with_reducible first | exact HB.out | apply below_alloc | apply pw_below_drewN | apply below_drew1) | exact HB.out)) hb); clear HB; have HO1176 := n0_; have HB := n1_; clear n0_ n1_; (try clear hb); (try clear hb2); (try clear hk); (try clear hi); (try clear ho0)) | ((with_reducible refine gate_callee (f := 56) rfl ?_); refine goesL_ (some 56) rfl rfl Try.func56 (by kernel_rfl) rfl #[.int .i64 a0, .string a1] rfl (by (try simp only [List.map_toArray, List.map_cons, List.map_nil]); first | done | rfl | (simp only [List.length_drop, List.length_take]; rfl)) ?_; (with_reducible refine (sealringref32_Content.calls kj5 a0 a1 t1177 t1178 _ A23.out).mono ?_); rintro e w65 ⟨v1179, rfl, ho0, hb⟩; refine ⟨_, rfl, ?_⟩; have n0_ := Aside0.mk (Kd.R_elder' (by (with_reducible repeat (first | apply Kd.R_alloc | apply Kd.R_drewN | apply Kd.R_drew)); exact HO1176.out) (Kd.R_base ho0) hb); have n1_ := Aside0.mk (Kd.R_lower (Kd.R_new' ho0 (Kd.R_lt (by (with_reducible repeat (first | apply Kd.R_alloc | apply Kd.R_drewN | apply Kd.R_drew)); exact HO1176.out))) (below_size (by repeat (first | (with_reducible first | exact HB.out | apply below_alloc | apply pw_below_drewN | apply below_drew1) | exact HB.out)))); have n2_ := Aside0.mk (below_step (by repeat (first | (with_reducible first | exact HB.out | apply below_alloc | apply pw_below_drewN | apply below_drew1) | exact HB.out)) hb); clear HO1176; clear HB; have HO1176 := n0_; have HO1180 := n1_; have HB := n2_; clear n0_ n1_ n2_; (try clear hb); (try clear hb2); (try clear hk); (try clear hi); (try clear ho0)) | ((with_reducible refine gate_callee (f := 57) rfl ?_); refine goesL_ (some 63) rfl rfl Try.func57 (by kernel_rfl) rfl #[.int .i64 a0, .string a1, .string a2] rfl (by (try simp only [List.map_toArray, List.map_cons, List.map_nil]); first | done | rfl | (simp only [List.length_drop, List.length_take]; rfl)) ?_; (with_reducible refine (keep_Inner.calls a0 a1 a2 t1181 t1182 _ A24.out).mono ?_); rintro e w66 ⟨v1183, rfl, ho0, hb⟩; refine ⟨_, rfl, ?_⟩; have n0_ := Aside0.mk (Kd.R_elder' (by (with_reducible repeat (first | apply Kd.R_alloc | apply Kd.R_drewN | apply Kd.R_drew)); exact HO1176.out) (Kd.R_base ho0) hb); have n1_ := Aside0.mk (Kd.R_elder' (by (with_reducible repeat (first | apply Kd.R_alloc | apply Kd.R_drewN | apply Kd.R_drew)); exact HO1180.out) (Kd.R_base ho0) hb); have n2_ := Aside0.mk (Kd.R_lower (Kd.R_new' (Kd.R_new' ho0 (Kd.R_lt (by (with_reducible repeat (first | apply Kd.R_alloc | apply Kd.R_drewN | apply Kd.R_drew)); exact HO1176.out))) (Kd.R_lt (by (with_reducible repeat (first | apply Kd.R_alloc | apply Kd.R_drewN | apply Kd.R_drew)); exact HO1180.out))) (below_size (by repeat (first | (with_reducible first | exact HB.out | apply below_alloc | apply pw_below_drewN | apply below_drew1) | exact HB.out)))); have n3_ := Aside0.mk (below_step (by repeat (first | (with_reducible first | exact HB.out | apply below_alloc | apply pw_below_drewN | apply below_drew1) | exact HB.out)) hb); clear HO1176; clear HO1180; clear HB; have HO1176 := n0_; have HO1180 := n1_; have HO1184 := n2_; have HB := n3_; clear n0_ n1_ n2_ n3_; (try clear hb); (try clear hb2); (try clear hk); (try clear hi); (try clear ho0)) | ((with_reducible refine gate_callee (f := 58) rfl ?_); refine goesL_ (some 70) rfl rfl Try.func58 (by kernel_rfl) rfl #[.int .i64 a0, .string a1, .string a2] rfl (by (try simp only [List.map_toArray, List.map_cons, List.map_nil]); first | done | rfl | (simp only [List.length_drop, List.length_take]; rfl)) ?_; (with_reducible refine (sealringref32_Inner.calls a0 a1 a2 t1185 t1186 _ A25.out).mono ?_); rintro e w67 ⟨v1187, rfl, ho0, hb⟩; refine ⟨_, rfl, ?_⟩; have n0_ := Aside0.mk (Kd.R_elder' (by (with_reducible repeat (first | apply Kd.R_alloc | apply Kd.R_drewN | apply Kd.R_drew)); exact HO1176.out) (Kd.R_base ho0) hb); have n1_ := Aside0.mk (Kd.R_elder' (by (with_reducible repeat (first | apply Kd.R_alloc | apply Kd.R_drewN | apply Kd.R_drew)); exact HO1180.out) (Kd.R_base ho0) hb); have n2_ := Aside0.mk (Kd.R_elder' (by (with_reducible repeat (first | apply Kd.R_alloc | apply Kd.R_drewN | apply Kd.R_drew)); exact HO1184.out) (Kd.R_base ho0) hb); have n3_ := Aside0.mk (Kd.R_lower (Kd.R_new' (Kd.R_new' (Kd.R_new' ho0 (Kd.R_lt (by (with_reducible repeat (first | apply Kd.R_alloc | apply Kd.R_drewN | apply Kd.R_drew)); exact HO1176.out))) (Kd.R_lt (by (with_reducible repeat (first | apply Kd.R_alloc | apply Kd.R_drewN | apply Kd.R_drew)); exact HO1180.out))) (Kd.R_lt (by (with_reducible repeat (first | apply Kd.R_alloc | apply Kd.R_drewN | apply Kd.R_drew)); exact HO1184.out))) (below_size (by repeat (first | (with_reducible first | exact HB.out | apply below_alloc | apply pw_below_drewN | apply below_drew1) | exact HB.out)))); have n4_ := Aside0.mk (below_step (by repeat (first | (with_reducible first | exact HB.out | apply below_alloc | apply pw_below_drewN | apply below_drew1) | exact HB.out)) hb); clear HO1176; clear HO1180; clear HO1184; clear HB; have HO1176 := n0_; have HO1180 := n1_; have HO1184 := n2_; have HO1188 := n3_; have HB := n4_; clear n0_ n1_ n2_ n3_ n4_; (try clear hb); (try clear hb2); (try clear hk); (try clear hi); (try clear ho0); obtain ⟨Ao68, co68, eo68⟩ := Kd.R_slice HO1176.out; subst eo68; obtain ⟨Ao69, co69, eo69⟩ := Kd.R_slice HO1180.out; subst eo69) | ((with_reducible refine gate_callee (f := 54) rfl ?_); refine goesL_ (some 75) rfl rfl Try.func54 (by kernel_rfl) rfl #[.slice Ao68 t1173.length co68, .slice Ao69 t1177.length co69] rfl (by (try simp only [List.map_toArray, List.map_cons, List.map_nil]); first | done | rfl | (simp only [List.length_drop, List.length_take]; rfl)) ?_; (with_reducible refine (sealringlaw32_same.calls kj5 _ _ t1173 _ _ t1177 false _ ?side1 ?side2 ?side3 ?side4 A26.out).mono ?_); (case side1 => repeat (first | exact (Kd.R_reads' HO1176.out).2.2 | (with_reducible refine Kd.C_alloc ?_ _) | (with_reducible refine Kd.C_drewN ?_ _) | (with_reducible refine Kd.C_drew ?_))); (case side2 => exact (Kd.R_reads' HO1176.out).2.1); (case side3 => repeat (first | exact (Kd.R_reads' HO1180.out).2.2 | (with_reducible refine Kd.C_alloc ?_ _) | (with_reducible refine Kd.C_drewN ?_ _) | (with_reducible refine Kd.C_drew ?_))); (case side4 => exact (Kd.R_reads' HO1180.out).2.1); rintro e w' ⟨rfl, ⟨nd, rfl⟩⟩; refine ⟨_, rfl, ?_⟩))
          go_ret
          exact ⟨by first | rfl | (simp [errW_none, errW_some] <;> rfl) | (simp [*, errW_none, errW_some] <;> rfl), by repeat (first | (with_reducible first | exact HB.out | apply below_alloc | apply pw_below_drewN | apply below_drew1) | exact HB.out)⟩
def sealringlaw32_KeepTells.Pure : Prop := ∀ (a0 : Int) (a1 : ByteArray) (a2 : ByteArray), (Lit.int .i64 a0).wf = true → a1.size ≤ 140737488351232 → a2.size ≤ 140737488351232 → ∃ k, sealringlaw32_KeepTells.f k a0 a1 a2 = some true
theorem sealringlaw32_KeepTells.walk (P : sealringlaw32_KeepTells.Pure) (a0 : Int) (a1 : ByteArray) (a2 : ByteArray) (w : World) (w0 : (Lit.int .i64 a0).wf = true) (w1 : a1.size ≤ 140737488351232) (w2 : a2.size ≤ 140737488351232) :
    Calls Try.prog 9 #[.int .i64 a0, .string a1, .string a2] w fun e w' => e = .returned (.bool true) ∧ Below w.heap.size w w' := by
  obtain ⟨k, h⟩ := P a0 a1 a2 w0 w1 w2
  refine (sealringlaw32_KeepTells.calls k a0 a1 a2 true w h).mono ?_
  rintro e w' ⟨rfl, hd⟩
  exact ⟨rfl, hd⟩
end Go.Proofs.Ytbnmcnghmnhigaa.X
end
section
namespace Go.Proofs.Ytbnmcnghmnhigaa.X
open Go.RowKit Go.Proofs.YtbnmcnghmnhigaaW.PrintWords Go.Proofs.YtbnmcnghmnhigaaW.PrintLast
set_option linter.unusedVariables false
set_option linter.unusedSimpArgs false
def insL (x : List UInt8) : List (List UInt8) → List (List UInt8)
  | [] => [x]
  | y :: ys => if x ≤ y then x :: y :: ys else y :: insL x ys
def isortL : List (List UInt8) → List (List UInt8)
  | [] => []
  | x :: xs => insL x (isortL xs)
theorem insL_perm (x : List UInt8) : ∀ l, (insL x l).Perm (x :: l)
  | [] => List.Perm.refl _
  | y :: ys => by
    unfold insL
    split
    · exact List.Perm.refl _
    · exact ((insL_perm x ys).cons y).trans (List.Perm.swap x y ys)
theorem isortL_perm : ∀ l, (isortL l).Perm l
  | [] => List.Perm.refl _
  | x :: xs => (insL_perm x _).trans ((isortL_perm xs).cons x)
theorem insL_pw (x : List UInt8) : ∀ l, l.Pairwise (· ≤ ·) → (insL x l).Pairwise (· ≤ ·)
  | [], _ => by simp [insL]
  | y :: ys, h => by
    rw [List.pairwise_cons] at h
    unfold insL
    split
    · rename_i hx
      refine List.pairwise_cons.2 ⟨fun z hz => ?_, List.pairwise_cons.2 h⟩
      rcases List.mem_cons.1 hz with rfl | hz
      · exact hx
      · exact List.le_trans hx (h.1 z hz)
    · rename_i hx
      refine List.pairwise_cons.2 ⟨fun z hz => ?_, insL_pw x ys h.2⟩
      rcases List.mem_cons.1 ((insL_perm x ys).mem_iff.1 hz) with rfl | hz
      · exact (List.le_total y z).resolve_right hx
      · exact h.1 z hz
theorem isortL_pw : ∀ l, (isortL l).Pairwise (· ≤ ·)
  | [] => List.Pairwise.nil
  | x :: xs => insL_pw x _ (isortL_pw xs)
theorem merge_isort (l : List (List UInt8)) : (l.mergeSort fun x y => decide (x ≤ y)) = isortL l := by
  refine List.Perm.eq_of_pairwise (le := (· ≤ ·)) (fun a b _ _ h1 h2 => List.le_antisymm h1 h2) ?_ (isortL_pw l) ((List.mergeSort_perm l _).trans (isortL_perm l).symm)
  have := List.pairwise_mergeSort (le := fun (x y : List UInt8) => decide (x ≤ y)) (fun a b c h1 h2 => by simp only [decide_eq_true_eq] at *; exact List.le_trans h1 h2) (fun a b => by simp only [Bool.or_eq_true, decide_eq_true_eq]; exact List.le_total a b) l
  exact this.imp (fun h => by simpa using h)
def isB (l : List ByteArray) : List ByteArray := (isortL (l.map (·.data.toList))).map fun b => ⟨b.toArray⟩
theorem sortB_is (l : List ByteArray) : sortB l = isB l := by unfold sortB isB; rw [merge_isort]
theorem same_go (l : List ByteArray) (hl : l.length ≤ 1000) : ∀ (n i : Nat), i + n = l.length → Ev (fun k => sealringlaw32_same.l0 k l l (l.length : Int) (i : Int)) true := by
  intro n
  induction n with
  | zero =>
    intro i hi
    refine Ev.step (f := fun _ => some true) (fun k => ?_) (Ev.now _)
    rw [sealringlaw32_same.l0, if_neg (by omega)]
  | succ n ih =>
    intro i hi
    refine Ev.step (fun k => by rw [sealringlaw32_same.l0]) (evPos (by omega) (evPos (by omega) (evPos (by omega) (evPos (by omega) (evPos rfl ?_)))))
    rw [w64s i (by omega)]
    exact ih (i + 1) (by omega)
theorem same_ev (l : List ByteArray) (hl : l.length ≤ 1000) : Ev (fun k => sealringlaw32_same.f k l l) true := by
  unfold sealringlaw32_same.f
  exact evPos rfl (same_go l hl l.length 0 (by omega))
def keepF (a0 : Int) (a1 : ByteArray) : Option (List ByteArray × Bool) :=
  (version_Of.f a0).bind fun t => if t.2.2.2.2.2.2.2 = 0 then (if t.2.2.2.2.2.2.1 = true ∧ a1.data.toList = keepK1.data.toList then some ([], true) else some (isB (keepG t.2.2.2.1 t.2.2.2.2.1 t.2.2.2.2.2.1 t.2.2.2.2.2.2.1 a1.data.toList), false)) else some ([], false)
theorem content_is (a0 : Int) (a1 : ByteArray) (h : a1.size ≤ 140737488351232) : keep_Content.f a0 a1 = keepF a0 a1 := by
  unfold keep_Content.f keepF
  cases version_Of.f a0 with
  | none => rfl
  | some t =>
    simp only [Option.bind_some]
    by_cases c : t.2.2.2.2.2.2.2 = 0
    · rw [if_pos c, if_pos c, if_pos (by unfold maxLen; omega), sortB_is, Go.ByteArray.toList_eq]
      by_cases c1 : t.2.2.2.2.2.2.1 = true
      · rw [if_pos c1]
        by_cases c2 : a1.data.toList = keepK1.data.toList
        · rw [if_pos c2, if_pos ⟨c1, c2⟩]
        · rw [if_neg c2, if_neg (fun h => c2 h.2)]
      · rw [if_neg c1, if_neg (fun h => c1 h.1)]
    · rw [if_neg c, if_neg c]
def keepTF (a0 : Int) : Option (List ByteArray × Int) :=
  (version_Of.f a0).bind fun t => if t.2.2.2.2.2.2.2 = 0 then (if t.2.2.2.2.2.2.1 = true then some (keepT, 0) else some (isB (keepT ++ keepU), 0)) else some ([], t.2.2.2.2.2.2.2)
theorem top_is (a0 : Int) : keep_Top.f a0 = keepTF a0 := by unfold keep_Top.f keepTF; simp only [sortB_is]
def kinds : List ByteArray := [(⟨#[109, 46, 114, 111, 111, 109, 46, 109, 101, 109, 98, 101, 114]⟩ : ByteArray), (⟨#[109, 46, 114, 111, 111, 109, 46, 99, 114, 101, 97, 116, 101]⟩ : ByteArray), (⟨#[109, 46, 114, 111, 111, 109, 46, 106, 111, 105, 110, 95, 114, 117, 108, 101, 115]⟩ : ByteArray), (⟨#[109, 46, 114, 111, 111, 109, 46, 112, 111, 119, 101, 114, 95, 108, 101, 118, 101, 108, 115]⟩ : ByteArray), (⟨#[109, 46, 114, 111, 111, 109, 46, 104, 105, 115, 116, 111, 114, 121, 95, 118, 105, 115, 105, 98, 105, 108, 105, 116, 121]⟩ : ByteArray), (⟨#[109, 46, 114, 111, 111, 109, 46, 97, 108, 105, 97, 115, 101, 115]⟩ : ByteArray), (⟨#[109, 46, 114, 111, 111, 109, 46, 114, 101, 100, 97, 99, 116, 105, 111, 110]⟩ : ByteArray)]
def other (a1 : ByteArray) : Prop := ∀ x ∈ kinds, a1.data.toList ≠ x.data.toList
theorem kind_or (a1 : ByteArray) : (∃ i : Fin 7, a1 = kinds.getD i.val ⟨#[]⟩) ∨ other a1 := by
  by_cases h : a1 ∈ kinds
  · obtain ⟨i, hi, e⟩ := List.getElem_of_mem h
    refine .inl ⟨⟨i, hi⟩, ?_⟩
    rw [List.getD_eq_getElem?_getD, List.getElem?_eq_getElem hi]
    exact e.symm
  · refine .inr fun x hx e => h ?_
    have : a1 = x := by
      cases a1 with | mk a => cases x with | mk b => exact congrArg _ (Array.toList_inj.1 e)
    rw [this]
    exact hx
theorem keepG_other (r3 r4 r5 r6 : Bool) (a1 : ByteArray) (h : other a1) : keepG r3 r4 r5 r6 a1.data.toList = [] := by
  have n : ∀ (f : List UInt8 → List ByteArray) (x : ByteArray) (v : List ByteArray), x ∈ kinds → upd f x.data.toList v a1.data.toList = f a1.data.toList := fun f x v hx => upd_other f v (h x hx)
  have m : ∀ (f : List UInt8 → List ByteArray) (x v : ByteArray) (yes : Bool), x ∈ kinds → addG f x v yes a1.data.toList = f a1.data.toList := fun f x v yes hx => by
    unfold addG
    split
    · exact n _ _ _ hx
    · rfl
  unfold keepG
  rw [m _ _ _ _ (by simp [kinds]), m _ _ _ _ (by simp [kinds]), m _ _ _ _ (by simp [kinds]), m _ _ _ _ (by simp [kinds]), m _ _ _ _ (by simp [kinds]), m _ _ _ _ (by simp [kinds])]
  unfold keepG5; rw [n _ _ _ (by simp [kinds])]
  unfold keepG4; rw [n _ _ _ (by simp [kinds])]
  unfold keepG3; rw [n _ _ _ (by simp [kinds])]
  unfold keepG2; rw [n _ _ _ (by simp [kinds])]
  unfold keepG1; rw [n _ _ _ (by simp [kinds])]
theorem keepF_other (a0 : Int) (a1 : ByteArray) (h : other a1) : keepF a0 a1 = some ([], false) := by
  unfold keepF
  have : ∃ t, version_Of.f a0 = some t := by
    unfold version_Of.f
    split
    · exact ⟨_, rfl⟩
    · split <;> exact ⟨_, rfl⟩
  obtain ⟨t, ht⟩ := this
  rw [ht]
  simp only [Option.bind_some]
  have hk : ¬ (t.2.2.2.2.2.2.1 = true ∧ a1.data.toList = keepK1.data.toList) := fun c => h keepK1 (by simp [kinds]) c.2
  rw [if_neg hk, keepG_other _ _ _ _ _ h]
  split <;> rfl
theorem lives32 : sealringlaw32_lives.f = some true := by
  unfold sealringlaw32_lives.f
  rw [content_is _ _ (by decide), content_is _ _ (by decide)]
  kernel_rfl
end Go.Proofs.Ytbnmcnghmnhigaa.X
end
section
namespace Go.Proofs.Ytbnmcnghmnhigaa.Pure
open Go.RowKit Go.Proofs.Ytbnmcnghmnhigaa.X Go.Proofs.YtbnmcnghmnhigaaW.PrintWords Go.Proofs.YtbnmcnghmnhigaaW.PrintLast
set_option linter.unusedVariables false
set_option linter.unusedSimpArgs false
theorem content_all : ∀ (v : Fin 11) (i : Fin 7), keepF ((v.val : Int) + 1) (kinds.getD i.val ⟨#[]⟩) = sealringref32_Content.f 20 ((v.val : Int) + 1) (kinds.getD i.val ⟨#[]⟩) ∧ (keepF ((v.val : Int) + 1) (kinds.getD i.val ⟨#[]⟩)).isSome = true ∧ ((keepF ((v.val : Int) + 1) (kinds.getD i.val ⟨#[]⟩)).getD ([], false)).1.length ≤ 100 := by decide +kernel
theorem top_all : ∀ (v : Fin 11), (keepTF ((v.val : Int) + 1)).map (·.1) = (sealringref32_Top.f 30 ((v.val : Int) + 1)).map (·.1) ∧ (keepTF ((v.val : Int) + 1)).map (·.2) = some 0 ∧ (sealringref32_Top.f 30 ((v.val : Int) + 1)).map (·.2) = some true ∧ ((keepTF ((v.val : Int) + 1)).getD ([], 0)).1.length ≤ 100 := by decide +kernel
theorem tells_chain (a0 : Int) (a1 a2 : ByteArray) (l : List ByteArray) (e : Int) (ok : Bool) (c i : List ByteArray × Bool) (hT : keep_Top.f a0 = some (l, e)) (hM : Ev (fun k => sealringref32_Top.f k a0) (l, ok)) (he : (e == 0) = ok) (hx : ok = true ∨ e = 24)
    (hC : keep_Content.f a0 a1 = some c) (hD : Ev (fun k => sealringref32_Content.f k a0 a1) c) (hI : keep_Inner.f a0 a1 a2 = some i) (hJ : sealringref32_Inner.f a0 a1 a2 = some i) (h1 : l.length ≤ 100) (h2 : c.1.length ≤ 100) (h3 : i.1.length ≤ 100) : Ev (fun k => sealringlaw32_KeepTells.f k a0 a1 a2) true := by
  unfold sealringlaw32_KeepTells.f
  simp only [hT, Option.bind_some]
  refine Ev.bind hM ?_
  refine Ev.bind (same_ev l (by omega)) ?_
  refine evPos rfl (evNeg (by rw [he]; simp) ?_)
  have hj : Ev (fun k => sealringlaw32_KeepTells.j0 k a0 a1 a2 false) true := by
    refine Ev.step (fun k => by rw [sealringlaw32_KeepTells.j0]) (evNeg (by decide) ?_)
    simp only [hC, hI, hJ, lives32, Option.bind_some]
    refine Ev.bind hD ?_
    refine Ev.bind (same_ev c.1 (by omega)) ?_
    refine evPos rfl (evPos (by simp) ?_)
    refine Ev.bind (same_ev i.1 (by omega)) ?_
    exact evPos rfl (evPos (by simp) (Ev.now _))
  cases ok with
  | true => exact evPos rfl hj
  | false =>
    rcases hx with h | h
    · cases h
    · subst h
      exact evNeg (by simp) hj
theorem inner_eq (a0 : Int) (a1 a2 : ByteArray) : ∃ i, keep_Inner.f a0 a1 a2 = some i ∧ sealringref32_Inner.f a0 a1 a2 = some i ∧ i.1.length ≤ 100 := by
  unfold keep_Inner.f sealringref32_Inner.f version_Of.f sealringref26_Of.f
  by_cases c0 : a0 < 1
  · rw [if_pos c0, if_pos c0]; exact ⟨_, rfl, rfl, by decide⟩
  · rw [if_neg c0, if_neg c0]
    by_cases c1 : a0 > 11
    · rw [if_pos c1, if_pos c1]; exact ⟨_, rfl, rfl, by decide⟩
    · rw [if_neg c1, if_neg c1]
      simp only [Option.bind_some]
      have h6 : (6 : Int) < (([decide (a0 ≤ 2), decide (a0 ≤ 2), decide (a0 ≥ 4), decide (a0 ≤ 5), decide (a0 ≥ 8), decide (a0 ≥ 9), decide (a0 ≥ 11)] : List Bool).length : Int) := by simp
      have hr : rdOf false ([decide (a0 ≤ 2), decide (a0 ≤ 2), decide (a0 ≥ 4), decide (a0 ≤ 5), decide (a0 ≥ 8), decide (a0 ≥ 9), decide (a0 ≥ 11)] : List Bool) 6 = decide (a0 ≥ 11) := rfl
      rw [if_pos h6, hr, if_pos trivial]
      by_cases c2 : 11 ≤ a0
      · have e1 : decide (11 ≤ a0) = true := decide_eq_true c2
        have e2 : decide (a0 ≥ 11) = true := decide_eq_true c2
        rw [if_pos e1]
        by_cases c3 : a1.toList = ([109, 46, 114, 111, 111, 109, 46, 109, 101, 109, 98, 101, 114] : List UInt8)
        · rw [if_pos c3]
          by_cases c4 : a2.toList = ([116, 104, 105, 114, 100, 95, 112, 97, 114, 116, 121, 95, 105, 110, 118, 105, 116, 101] : List UInt8)
          · rw [if_pos c4]; exact ⟨_, rfl, rfl, by decide⟩
          · rw [if_neg c4]; exact ⟨_, rfl, rfl, by decide⟩
        · rw [if_neg c3]; exact ⟨_, rfl, rfl, by decide⟩
      · have e1 : ¬ (decide (11 ≤ a0) = true) := by simpa using c2
        have e2 : ¬ (decide (a0 ≥ 11) = true) := by simpa using c2
        rw [if_neg e1]
        exact ⟨_, rfl, rfl, by decide⟩
theorem content_other (a0 : Int) (a1 : ByteArray) (h : other a1) (k : Nat) : sealringref32_Content.f k a0 a1 = some ([], false) := by
  have n : ∀ x ∈ kinds, ¬ (a1.toList = x.data.toList) := fun x hx => by rw [Go.ByteArray.toList_eq]; exact h x hx
  unfold sealringref32_Content.f sealringref26_Of.f
  by_cases c0 : a0 < 1
  · rw [if_pos c0]; rfl
  · rw [if_neg c0]
    by_cases c1 : a0 > 11
    · rw [if_pos c1]; rfl
    · rw [if_neg c1]
      simp only [Option.bind_some]
      have n0 : ¬ (a1.toList = ([109, 46, 114, 111, 111, 109, 46, 109, 101, 109, 98, 101, 114] : List UInt8)) := n ⟨#[109, 46, 114, 111, 111, 109, 46, 109, 101, 109, 98, 101, 114]⟩ (by simp [kinds])
      have n1 : ¬ (a1.toList = ([109, 46, 114, 111, 111, 109, 46, 99, 114, 101, 97, 116, 101] : List UInt8)) := n ⟨#[109, 46, 114, 111, 111, 109, 46, 99, 114, 101, 97, 116, 101]⟩ (by simp [kinds])
      have n2 : ¬ (a1.toList = ([109, 46, 114, 111, 111, 109, 46, 106, 111, 105, 110, 95, 114, 117, 108, 101, 115] : List UInt8)) := n ⟨#[109, 46, 114, 111, 111, 109, 46, 106, 111, 105, 110, 95, 114, 117, 108, 101, 115]⟩ (by simp [kinds])
      have n3 : ¬ (a1.toList = ([109, 46, 114, 111, 111, 109, 46, 112, 111, 119, 101, 114, 95, 108, 101, 118, 101, 108, 115] : List UInt8)) := n ⟨#[109, 46, 114, 111, 111, 109, 46, 112, 111, 119, 101, 114, 95, 108, 101, 118, 101, 108, 115]⟩ (by simp [kinds])
      have n5 : ¬ (a1.toList = ([109, 46, 114, 111, 111, 109, 46, 97, 108, 105, 97, 115, 101, 115] : List UInt8)) := n ⟨#[109, 46, 114, 111, 111, 109, 46, 97, 108, 105, 97, 115, 101, 115]⟩ (by simp [kinds])
      have n4 : ¬ (a1.toList = ([109, 46, 114, 111, 111, 109, 46, 104, 105, 115, 116, 111, 114, 121, 95, 118, 105, 115, 105, 98, 105, 108, 105, 116, 121] : List UInt8)) := n ⟨#[109, 46, 114, 111, 111, 109, 46, 104, 105, 115, 116, 111, 114, 121, 95, 118, 105, 115, 105, 98, 105, 108, 105, 116, 121]⟩ (by simp [kinds])
      have n6 : ¬ (a1.toList = ([109, 46, 114, 111, 111, 109, 46, 114, 101, 100, 97, 99, 116, 105, 111, 110] : List UInt8)) := n ⟨#[109, 46, 114, 111, 111, 109, 46, 114, 101, 100, 97, 99, 116, 105, 111, 110]⟩ (by simp [kinds])
      rw [if_pos trivial, if_neg n0, if_neg n1, if_neg n2, if_neg n3, if_neg n5, if_neg n4, if_neg n6]
theorem KeepTells : sealringlaw32_KeepTells.Pure := by
  intro a0 a1 a2 h0 h1 h2
  refine Ev.rounds (g := fun k => sealringlaw32_KeepTells.f k a0 a1 a2) ?_
  obtain ⟨i, hI, hJ, hi⟩ := inner_eq a0 a1 a2
  by_cases c : a0 < 1 ∨ a0 > 11
  · have hv : version_Of.f a0 = some (false, false, false, false, false, false, false, 24) := by
      unfold version_Of.f
      by_cases c0 : a0 < 1
      · rw [if_pos c0]
      · rw [if_neg c0, if_pos (by omega)]
    have hr : sealringref26_Of.f a0 = some ([], false) := by
      unfold sealringref26_Of.f
      by_cases c0 : a0 < 1
      · rw [if_pos c0]
      · rw [if_neg c0, if_pos (by omega)]
    refine tells_chain a0 a1 a2 [] 24 false ([], false) i ?_ ?_ (by decide) (.inr rfl) ?_ ?_ hI hJ (by decide) (by decide) hi
    · unfold keep_Top.f; rw [hv]; rfl
    · exact Ev.congr (fun k => by unfold sealringref32_Top.f; rw [hr]; rfl) (Ev.now _)
    · unfold keep_Content.f; rw [hv]; rfl
    · exact Ev.congr (fun k => by unfold sealringref32_Content.f; rw [hr]; rfl) (Ev.now _)
  · obtain ⟨v, rfl⟩ : ∃ v : Fin 11, a0 = (v.val : Int) + 1 := ⟨⟨(a0 - 1).toNat, by omega⟩, by show a0 = ((a0 - 1).toNat : Int) + 1; omega⟩
    obtain ⟨t1, t2, t3, t4⟩ := top_all v
    obtain ⟨⟨l, e⟩, e1, e2⟩ := Option.map_eq_some_iff.1 t2
    obtain ⟨⟨m, ok⟩, f1, f2⟩ := Option.map_eq_some_iff.1 t3
    rw [e1, f1] at t1
    rw [e1] at t4
    simp only [Option.map_some, Option.some.injEq] at t1 e2 f2
    subst t1 e2 f2
    rcases kind_or a1 with ⟨j, rfl⟩ | ho
    · obtain ⟨u1, u2, u3⟩ := content_all v j
      obtain ⟨r, hr⟩ := Option.isSome_iff_exists.1 u2
      rw [hr] at u1 u3
      exact tells_chain _ _ a2 l 0 true r i ((top_is _).trans e1) (Ev.of (sealringref32_Top.mono _) f1) (by decide) (.inl rfl) ((content_is _ _ h1).trans hr) (Ev.of (sealringref32_Content.mono _ _) u1.symm) hI hJ t4 u3 hi
    · exact tells_chain _ _ a2 l 0 true ([], false) i ((top_is _).trans e1) (Ev.of (sealringref32_Top.mono _) f1) (by decide) (.inl rfl) ((content_is _ _ h1).trans (keepF_other _ _ ho)) (Ev.congr (fun k => content_other _ _ ho k) (Ev.now _)) hI hJ t4 (by decide) hi
end Go.Proofs.Ytbnmcnghmnhigaa.Pure
end
section
-- printed by wip/tools/printx.py over the translation; Lean checks it
namespace Go.Proofs.Ytbnmcnghmnhigaa.keepTells
open Go.ChangeShapes Go.WideShapes Go.ChangeAt Go.RowKit
open Go.ChangeMaps (open_string shut_string)
set_option linter.unusedVariables false
theorem own : ownKnob Try.prog.godebug = none := by kernel_rfl
set_option maxRecDepth 100000 in
theorem lifted (os : Os) (started : os.Started) (H : Type) (enc : TypeId × Value → H) :
    ReturnsInHanded {} Try.checked os 9 .any (Rows.keepTellsSpec.pre6 enc Try.prog Try.f9 Rows.keepTellsRow.domain false) (Rows.keepTellsSpec.post enc Try.prog Try.f9 false true false false) := by
  refine returnsInHanded_of_change_sized (C := Try.checked) own started (by kernel_rfl) Try.func9
    (ChangeSpec.witness6 (enc := enc) (C := Try.checked) false ⟨#[], #[.int .i64 0, .string ByteArray.empty, .string ByteArray.empty], []⟩ 8 (by kernel_rfl) (by kernel_rfl) (by kernel_rfl) (by kernel_rfl)) ?_
  intro W base args ds gs before hval0 hW hcnd hsz0 _
  have hsz : (DataW.weightsEach Try.prog (Try.f9.params.toList ++ Rows.keepTellsSpec.plain.varTypes Try.prog) (ds ++ gs)).all (· ≤ reachBytes) = true := hsz0
  have hval : ∀ (j : Nat) t v, Try.f9.params[j]? = some t → args[j]? = some v → Value.okWide Try.prog W .any base t v := hval0
  have hW' := hW
  obtain ⟨p, q, hA0, hV, rfl, hfz, hnd⟩ := hW
  have hA : DataW.TrodAll enc Try.prog W 0 (fun _ => true) true Try.f9.params.toList args.toList ds p := hA0
  rw [Try.params9] at hA hval hsz
  obtain ⟨v0, vs0, d0, ds0, p0, q0, hargs, rfl, rfl, h0, r0⟩ := trodAll_cons hA
  obtain ⟨v1, vs1, d1, ds1, p1, q1, rfl, rfl, rfl, h1, r1⟩ := trodAll_cons r0
  obtain ⟨v2, vs2, d2, ds2, p2, q2, rfl, rfl, rfl, h2, r2⟩ := trodAll_cons r1
  obtain ⟨rfl, rfl, rfl⟩ := trodAll_nil r2
  obtain rfl : args = #[v0, v1, v2] := by cases args; simp_all
  obtain ⟨rfl, rfl⟩ := trodVars_none hV
  obtain ⟨a0, rfl, rfl, rfl, w0⟩ := open_int Try.underlying3 (hval 0 3 v0 rfl rfl) h0
  obtain ⟨a1, rfl, rfl, rfl, y1⟩ := open_string Try.underlying9 (hval 1 9 v1 rfl rfl) h1
  have w1 : a1.size ≤ 140737488351232 := by
    have z := sized_string hsz (j := 1) (t := 9) rfl rfl
    rw [Array.length_toList] at z
    exact z
  obtain ⟨a2, rfl, rfl, rfl, y2⟩ := open_string Try.underlying9 (hval 2 9 v2 rfl rfl) h2
  have w2 : a2.size ≤ 140737488351232 := by
    have z := sized_string hsz (j := 2) (t := 9) rfl rfl
    rw [Array.length_toList] at z
    exact z
  clear hA0 hval0 hsz0 hsz
  refine (X.sealringlaw32_KeepTells.walk Pure.KeepTells a0 a1 a2 W w0 w1 w2).mono fun e W' ⟨he, bel⟩ => ?_
  subst he
  exact ⟨_, rfl, _, _, _, [], _, [], hW', trodAll_mk1 (shut_bool Try.underlying4 _), (trodAll_cons_mk (shut_int Try.underlying3 w0) (trodAll_cons_mk (shut_string Try.underlying9 y1) (trodAll_cons_mk (shut_string Try.underlying9 y2) trodAll_mk0))), rfl, bel.frame _, fun h => by cases h⟩
theorem over : Rows.keepTellsRow.holds Try.pinned (OpenSpec.ofChange Rows.keepTellsSpec) :=
  OpenClaim.holds_of_wide 9 Try.f9 rfl rfl rfl rfl rfl rfl rfl ⟨rfl, rfl, rfl, rfl, rfl⟩ rfl rfl rfl rfl rfl (by kernel_rfl) Try.func9 (by kernel_rfl)
    (of_decide_eq_true (by kernel_rfl)) (by unfold Func.isWrapper; first | (rw [if_pos (by decide +kernel)]; kernel_rfl) | (rw [if_neg (by decide +kernel)]; exact ⟨rfl, rfl⟩))
    (fun os started H enc _ => lifted os started H enc)
theorem proved : Rows.KeepTellsSaid := over
#print axioms proved
end Go.Proofs.Ytbnmcnghmnhigaa.keepTells
namespace Go.Proofs.Ytbnmcnghmnhigaa
/-- The row, under a short name, for the claim. -/
theorem keepTells_holds : Rows.KeepTellsSaid := keepTells.proved
end Go.Proofs.Ytbnmcnghmnhigaa
end
