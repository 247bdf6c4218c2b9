import Derived.Test.YtjdgjifacdnkgaaC06A3
section
namespace Go.Proofs.Ytjdgjifacdnkgaa.X
open Go.RowKit Go.Proofs.YtjdgjifacdnkgaaW.PrintWords Go.Proofs.YtjdgjifacdnkgaaW.PrintLast Go.Proofs.YtjdgjifacdnkgaaW.PrintMore
attribute [local go_sem] max2_int min2_int max_two min_two max_three min_three max_four min_four
set_option linter.unusedVariables false
set_option linter.unusedSimpArgs false
mutual
def sealringref04_Unquote.j0 : Nat → ByteArray → Int → Bool → Option (ByteArray × Int × Int)
  | 0, _, _, _ => none
  | k + 1, x0, x1, x19 => if x19 = true then (some ((⟨#[]⟩ : ByteArray), 0, 1)) else (if x1 = (x0.size : Int) then (some ((⟨#[]⟩ : ByteArray), 0, 5)) else (if 0 ≤ x1 then (if x1 < (x0.size : Int) then (if (bt x0 x1) = 34 then (sealringref04_Unquote.l0 k x0 (⟨#[]⟩ : ByteArray) (wrap64 (x1 + 1))) else (some ((⟨#[]⟩ : ByteArray), 0, 6))) else (none)) else (none)))
def sealringref04_Unquote.l0 : Nat → ByteArray → ByteArray → Int → Option (ByteArray × Int × Int)
  | 0, _, _, _ => none
  | k + 1, x0, x7, x8 => if x8 < (x0.size : Int) then (if 0 ≤ x8 then (sealringref04_Unquote.j2 k x0 x7 x8 ((bt x0 x8) != 34)) else (none)) else (sealringref04_Unquote.j2 k x0 x7 x8 false)
def sealringref04_Unquote.j2 : Nat → ByteArray → ByteArray → Int → Bool → Option (ByteArray × Int × Int)
  | 0, _, _, _, _ => none
  | k + 1, x0, x7, x8, x39 => if x39 = true then (if 0 ≤ x8 then (if x8 < (x0.size : Int) then (if (bt x0 x8) < 32 then (some ((⟨#[]⟩ : ByteArray), 0, 6)) else ((sealringref03_Next.f k x0 x8).bind fun bt154 => (if (bt x0 x8) = 92 then ((sealringref04_escape.f k x0 (wrap64 (x8 + 1))).bind fun bt156 => (sealringref04_Unquote.j3 k x0 x7 x8 bt156.1 (wrap64 (bt156.2.1 + 1)) bt156.2.2)) else (sealringref04_Unquote.j3 k x0 x7 x8 bt154.1 bt154.2 0)))) else (none)) else (none)) else (if x8 ≥ (x0.size : Int) then (some ((⟨#[]⟩ : ByteArray), 0, 5)) else (some (x7, wrap64 (x8 + 1), 0)))
def sealringref04_Unquote.j3 : Nat → ByteArray → ByteArray → Int → Int → Int → Int → Option (ByteArray × Int × Int)
  | 0, _, _, _, _, _, _ => none
  | k + 1, x0, x7, x8, x9, x10, x11 => if x11 = 0 then (if x10 = 0 then (some ((⟨#[]⟩ : ByteArray), 0, 10)) else ((sealringref03_Form.f x9).bind fun t159 => (if x7.size + t159.size ≤ 9223372036854775807 then (sealringref04_Unquote.l0 k x0 (x7 ++ t159) (wrap64 (x8 + x10))) else (none)))) else (some ((⟨#[]⟩ : ByteArray), 0, x11))
end
def sealringref04_Unquote.f (k : Nat) (a0 : ByteArray) (a1 : Int) : Option (ByteArray × Int × Int) := if a1 < 0 then (sealringref04_Unquote.j0 k a0 a1 true) else (sealringref04_Unquote.j0 k a0 a1 (decide (a1 > (a0.size : Int))))
theorem sealringref04_Unquote.mono_l : ∀ k, (∀ y0 y1 y2, LeO (sealringref04_Unquote.j0 k y0 y1 y2) (sealringref04_Unquote.j0 (k + 1) y0 y1 y2)) ∧ (∀ y0 y1 y2, LeO (sealringref04_Unquote.l0 k y0 y1 y2) (sealringref04_Unquote.l0 (k + 1) y0 y1 y2)) ∧ (∀ y0 y1 y2 y3, LeO (sealringref04_Unquote.j2 k y0 y1 y2 y3) (sealringref04_Unquote.j2 (k + 1) y0 y1 y2 y3)) ∧ (∀ y0 y1 y2 y3 y4 y5, LeO (sealringref04_Unquote.j3 k y0 y1 y2 y3 y4 y5) (sealringref04_Unquote.j3 (k + 1) y0 y1 y2 y3 y4 y5))
  | 0 => ⟨fun _ _ _ r h => by simp [sealringref04_Unquote.j0] at h, fun _ _ _ r h => by simp [sealringref04_Unquote.l0] at h, fun _ _ _ _ r h => by simp [sealringref04_Unquote.j2] at h, fun _ _ _ _ _ _ r h => by simp [sealringref04_Unquote.j3] at h⟩
  | k + 1 => by
    obtain ⟨ih0, ih1, ih2, ih3⟩ := sealringref04_Unquote.mono_l k
    refine ⟨?_, ?_, ?_, ?_⟩
    · intro y0 y1 y2
      unfold sealringref04_Unquote.j0
      repeat' first
      | (with_reducible exact ih0 _ _ _)
      | (with_reducible exact ih1 _ _ _)
      | (with_reducible exact ih2 _ _ _ _)
      | (with_reducible exact ih3 _ _ _ _ _ _)
      | (with_reducible exact sealringref03_Next.mono _ _ _)
      | (with_reducible exact sealringref04_escape.mono _ _ _)
      | (with_reducible exact LeO.refl _)
      | (with_reducible exact LeO.none _)
      | (with_reducible refine LeO.ite ?_ ?_)
      | (with_reducible refine LeO.bind ?_ (fun _ => ?_))
      | exact ih0 _ _ _
      | exact ih1 _ _ _
      | exact ih2 _ _ _ _
      | exact ih3 _ _ _ _ _ _
      | exact sealringref03_Next.mono _ _ _
      | exact sealringref04_escape.mono _ _ _
      | exact LeO.none _
      | refine LeO.ite ?_ ?_
      | refine LeO.bind ?_ (fun _ => ?_)
    · intro y0 y1 y2
      unfold sealringref04_Unquote.l0
      repeat' first
      | (with_reducible exact ih0 _ _ _)
      | (with_reducible exact ih1 _ _ _)
      | (with_reducible exact ih2 _ _ _ _)
      | (with_reducible exact ih3 _ _ _ _ _ _)
      | (with_reducible exact sealringref03_Next.mono _ _ _)
      | (with_reducible exact sealringref04_escape.mono _ _ _)
      | (with_reducible exact LeO.refl _)
      | (with_reducible exact LeO.none _)
      | (with_reducible refine LeO.ite ?_ ?_)
      | (with_reducible refine LeO.bind ?_ (fun _ => ?_))
      | exact ih0 _ _ _
      | exact ih1 _ _ _
      | exact ih2 _ _ _ _
      | exact ih3 _ _ _ _ _ _
      | exact sealringref03_Next.mono _ _ _
      | exact sealringref04_escape.mono _ _ _
      | exact LeO.none _
      | refine LeO.ite ?_ ?_
      | refine LeO.bind ?_ (fun _ => ?_)
    · intro y0 y1 y2 y3
      unfold sealringref04_Unquote.j2
      repeat' first
      | (with_reducible exact ih0 _ _ _)
      | (with_reducible exact ih1 _ _ _)
      | (with_reducible exact ih2 _ _ _ _)
      | (with_reducible exact ih3 _ _ _ _ _ _)
      | (with_reducible exact sealringref03_Next.mono _ _ _)
      | (with_reducible exact sealringref04_escape.mono _ _ _)
      | (with_reducible exact LeO.refl _)
      | (with_reducible exact LeO.none _)
      | (with_reducible refine LeO.ite ?_ ?_)
      | (with_reducible refine LeO.bind ?_ (fun _ => ?_))
      | exact ih0 _ _ _
      | exact ih1 _ _ _
      | exact ih2 _ _ _ _
      | exact ih3 _ _ _ _ _ _
      | exact sealringref03_Next.mono _ _ _
      | exact sealringref04_escape.mono _ _ _
      | exact LeO.none _
      | refine LeO.ite ?_ ?_
      | refine LeO.bind ?_ (fun _ => ?_)
    · intro y0 y1 y2 y3 y4 y5
      unfold sealringref04_Unquote.j3
      repeat' first
      | (with_reducible exact ih0 _ _ _)
      | (with_reducible exact ih1 _ _ _)
      | (with_reducible exact ih2 _ _ _ _)
      | (with_reducible exact ih3 _ _ _ _ _ _)
      | (with_reducible exact sealringref03_Next.mono _ _ _)
      | (with_reducible exact sealringref04_escape.mono _ _ _)
      | (with_reducible exact LeO.refl _)
      | (with_reducible exact LeO.none _)
      | (with_reducible refine LeO.ite ?_ ?_)
      | (with_reducible refine LeO.bind ?_ (fun _ => ?_))
      | exact ih0 _ _ _
      | exact ih1 _ _ _
      | exact ih2 _ _ _ _
      | exact ih3 _ _ _ _ _ _
      | exact sealringref03_Next.mono _ _ _
      | exact sealringref04_escape.mono _ _ _
      | exact LeO.none _
      | refine LeO.ite ?_ ?_
      | refine LeO.bind ?_ (fun _ => ?_)
theorem sealringref04_Unquote.mono : ∀ a0 a1 k, LeO (sealringref04_Unquote.f k a0 a1) (sealringref04_Unquote.f (k + 1) a0 a1) := by
  intro a0 a1 k
  obtain ⟨ih0, ih1, ih2, ih3⟩ := sealringref04_Unquote.mono_l k
  unfold sealringref04_Unquote.f
  repeat' first
      | (with_reducible exact ih0 _ _ _)
      | (with_reducible exact ih1 _ _ _)
      | (with_reducible exact ih2 _ _ _ _)
      | (with_reducible exact ih3 _ _ _ _ _ _)
      | (with_reducible exact sealringref03_Next.mono _ _ _)
      | (with_reducible exact sealringref04_escape.mono _ _ _)
      | (with_reducible exact LeO.refl _)
      | (with_reducible exact LeO.none _)
      | (with_reducible refine LeO.ite ?_ ?_)
      | (with_reducible refine LeO.bind ?_ (fun _ => ?_))
      | exact ih0 _ _ _
      | exact ih1 _ _ _
      | exact ih2 _ _ _ _
      | exact ih3 _ _ _ _ _ _
      | exact sealringref03_Next.mono _ _ _
      | exact sealringref04_escape.mono _ _ _
      | exact LeO.none _
      | refine LeO.ite ?_ ?_
      | refine LeO.bind ?_ (fun _ => ?_)
set_option maxHeartbeats 8000000 in
set_option maxRecDepth 100000 in
theorem sealringref04_Unquote.calls (k : Nat) (a0 : ByteArray) (a1 : Int) (r1 : ByteArray) (r2 : Int) (r3 : Int) (w : World) (h : sealringref04_Unquote.f k a0 a1 = some (r1, r2, r3)) :
    Calls Try.prog 22 #[.string a0, .int .i64 a1] w fun e w' => e = .returned (.tuple #[.string r1, .int .i64 r2, .int .i64 r3]) ∧ Below w.heap.size w w' := by
  have HB := Aside0.mk (Below.refl w.heap.size w)
  have H : (if a1 < 0 then (sealringref04_Unquote.j0 k a0 a1 true) else (sealringref04_Unquote.j0 k a0 a1 (decide (a1 > (a0.size : Int))))) = some (r1, r2, r3) := h
  clear h
  have HC3 := Aside0.mk H
  clear H
  go_enter Try.func22, Try.ntmps22
  go_upto_region 1 with (fail)
  go_cut [19] (fun v19 wc => ∃ (kq : Nat) (x19_2 : Bool), v19 = .bool x19_2 ∧ Aside0 (sealringref04_Unquote.j0 kq a0 a1 x19_2 = some (r1, r2, r3)) ∧ Aside0 (kq ≤ k) ∧ Aside0 (Below w.heap.size w wc))
  case first =>
    have H := HC3.out
    clear HC3
    by_cases c4 : a1 < 0
    · rw [if_pos c4] at H
      have c4b0 : decide (a1 < 0) = true := decide_eq_true c4
      clear c4
      (first | rw [c4b0] | (simp only [i64_w, i32_w]; rw [c4b0]) | skip)
      have H' := Aside0.mk H
      clear H
      go_wp2
      go_meet
      case rel => exact ⟨_, (true), (by first | rfl | (simp; done) | (simp [*]; done) | (simp [wrap64]; done)), (by first | with_reducible exact H' | exact H' | (subst_vars; exact H')), ⟨by first | omega | exact Nat.le_refl _⟩, ⟨by repeat (first | (with_reducible first | exact HB.out | apply below_alloc | apply pw_below_drewN | apply below_drew1) | exact HB.out)⟩⟩
    · rw [if_neg c4] at H
      have c4b0 : decide (a1 < 0) = false := decide_eq_false c4
      clear c4
      (first | rw [c4b0] | (simp only [i64_w, i32_w]; rw [c4b0]) | skip)
      have H' := Aside0.mk H
      clear H
      go_wp2
      go_meet
      case rel => exact ⟨_, (decide (a1 > (a0.size : Int))), (by first | rfl | (simp; done) | (simp [*]; done) | (simp [wrap64]; done)), (by first | with_reducible exact H' | exact H' | (subst_vars; exact H')), ⟨by first | omega | exact Nat.le_refl _⟩, ⟨by repeat (first | (with_reducible first | exact HB.out | apply below_alloc | apply pw_below_drewN | apply below_drew1) | exact HB.out)⟩⟩
  case rest =>
    clear HC3
    try clear c2
    try clear p2
    try clear c4
    try clear c4b0
    obtain ⟨kq, x19_2, rfl, HA, HJ2, HB⟩ := hcut
    cases kq with
    | zero => exact absurd HA.out (by simp [sealringref04_Unquote.j0])
    | succ kj2 =>
      have H := HA.out
      clear HA
      simp only [sealringref04_Unquote.j0] at H
      by_cases c5 : x19_2 = true
      · subst c5
        have H1 : (some ((⟨#[]⟩ : ByteArray), 0, 1)) = some (r1, r2, r3) := by rw [if_pos rfl] at H; exact H
        clear H
        have H := H1
        clear H1
        simp only [Option.some.injEq, Prod.mk.injEq] at H
        obtain ⟨rfl, rfl, rfl⟩ := H
        go_wp2
        go_ret3
        exact ⟨by first | rfl | (simp [errW_none, errW_some] <;> rfl) | (simp [*, errW_none, errW_some] <;> rfl), by repeat (first | (with_reducible first | exact HB.out | apply below_alloc | apply pw_below_drewN | apply below_drew1) | exact HB.out)⟩
      · replace c5 := Bool.eq_false_iff.mpr c5
        subst c5
        have H1 : (if a1 = (a0.size : Int) then (some ((⟨#[]⟩ : ByteArray), 0, 5)) else (if 0 ≤ a1 then (if a1 < (a0.size : Int) then (if (bt a0 a1) = 34 then (sealringref04_Unquote.l0 kj2 a0 (⟨#[]⟩ : ByteArray) (wrap64 (a1 + 1))) else (some ((⟨#[]⟩ : ByteArray), 0, 6))) else (none)) else (none))) = some (r1, r2, r3) := by rw [if_neg (show ¬ (false = true) by decide)] at H; exact H
        clear H
        have H := H1
        clear H1
        by_cases c6 : a1 = (a0.size : Int)
        · rw [if_pos c6] at H
          have c6b0 : (a1 == (a0.size : Int)) = true := beq_iff_eq.mpr c6
          have c6b1 : (a1 != (a0.size : Int)) = false := bne_eq_false_iff_eq.mpr c6
          clear c6
          simp only [Option.some.injEq, Prod.mk.injEq] at H
          obtain ⟨rfl, rfl, rfl⟩ := H
          go_wp2
          go_ret3
          exact ⟨by first | rfl | (simp [errW_none, errW_some] <;> rfl) | (simp [*, errW_none, errW_some] <;> rfl), by repeat (first | (with_reducible first | exact HB.out | apply below_alloc | apply pw_below_drewN | apply below_drew1) | exact HB.out)⟩
        · rw [if_neg c6] at H
          have c6b0 : (a1 == (a0.size : Int)) = false := beq_eq_false_iff_ne.mpr c6
          have c6b1 : (a1 != (a0.size : Int)) = true := bne_iff_ne.mpr c6
          by_cases c7 : 0 ≤ a1
          · rw [if_pos c7] at H
            have c7b0 : decide (0 ≤ a1) = true := decide_eq_true c7
            clear c7
            by_cases c8 : a1 < (a0.size : Int)
            · rw [if_pos c8] at H
              have c8b0 : decide (a1 < (a0.size : Int)) = true := decide_eq_true c8
              clear c8
              by_cases c10 : (bt a0 a1) = 34
              · rw [if_pos c10] at H
                have c10b0 : ((bt a0 a1) == 34) = true := beq_iff_eq.mpr c10
                have c10b1 : ((bt a0 a1) != 34) = false := bne_eq_false_iff_eq.mpr c10
                clear c10
                have H' := Aside0.mk H
                clear H
                have p9 : 0 ≤ (a1 : Int) := of_decide_eq_true (by first | (with_reducible assumption) | assumption)
                have q9 : a1 < (a0.size : Int) := of_decide_eq_true (by first | (with_reducible assumption) | assumption)
                have hx9 := bt_at a0 a1
                replace p9 := eq_true p9
                replace q9 := eq_true q9
                go_wp2
                (try simp only [Go.IntKind.wrap_u8])
                go_loopg [7, 8] kj2 (fun kq v7 v8 w' => ∃ (x7_2 : ByteArray) (x8_2 : Int), v7 = .string x7_2 ∧ v8 = .int .i64 x8_2 ∧ Aside0 (sealringref04_Unquote.l0 kq a0 x7_2 x8_2 = some (r1, r2, r3)) ∧ Aside0 (kq ≤ kj2) ∧ Aside0 (Below w.heap.size w w'))
                case atStart => exact ⟨((⟨#[]⟩ : ByteArray)), (wrap64 (a1 + 1)), (by first | rfl | (simp; done) | (simp [*]; done) | (simp [wrap64]; done)), (by first | rfl | (simp; done) | (simp [*]; done) | (simp [wrap64]; done)), (by first | with_reducible exact H' | exact H' | (subst_vars; exact H')), ⟨Nat.le_refl _⟩, ⟨by repeat (first | (with_reducible first | exact HB.out | apply below_alloc | apply pw_below_drewN | apply below_drew1) | exact HB.out)⟩⟩
                case round =>
                  clear H'
                  try clear c1
                  try clear c2
                  try clear p2
                  try clear c4
                  try clear c4b0
                  try clear c5
                  try clear c6
                  try clear c6b0
                  try clear c6b1
                  try clear p6
                  try clear c7
                  try clear c7b0
                  try clear c8
                  try clear c8b0
                  try clear p9
                  try clear q9
                  try clear hx9
                  try clear c10
                  try clear c10b0
                  try clear c10b1
                  try clear p2
                  try clear p9
                  try clear q9
                  obtain ⟨x7_2, x8_2, rfl, rfl, HA, HK2, HB⟩ := hrel
                  cases gk with
                  | zero => exact absurd HA.out (by simp [sealringref04_Unquote.l0])
                  | succ k2 =>
                    have H := HA.out
                    clear HA
                    simp only [sealringref04_Unquote.l0] at H
                    have HC11 := Aside0.mk H
                    clear H
                    go_upto_region 9 with (fail)
                    go_cut [39] (fun v39 wc => ∃ (kq : Nat) (x39_10 : Bool), v39 = .bool x39_10 ∧ Aside0 (sealringref04_Unquote.j2 kq a0 x7_2 x8_2 x39_10 = some (r1, r2, r3)) ∧ Aside0 (kq ≤ k2) ∧ Aside0 (Below w.heap.size w wc))
                    case first =>
                      have H := HC11.out
                      clear HC11
                      by_cases c12 : x8_2 < (a0.size : Int)
                      · rw [if_pos c12] at H
                        have c12b0 : decide (x8_2 < (a0.size : Int)) = true := decide_eq_true c12
                        clear c12
                        (first | rw [c12b0] | (simp only [i64_w, i32_w]; rw [c12b0]) | skip)
                        by_cases c13 : 0 ≤ x8_2
                        · rw [if_pos c13] at H
                          have c13b0 : decide (0 ≤ x8_2) = true := decide_eq_true c13
                          clear c13
                          have H' := Aside0.mk H
                          clear H
                          have p14 : 0 ≤ (x8_2 : Int) := of_decide_eq_true (by first | (with_reducible assumption) | assumption)
                          have q14 : x8_2 < (a0.size : Int) := of_decide_eq_true (by first | (with_reducible assumption) | assumption)
                          have hx14 := bt_at a0 x8_2
                          replace p14 := eq_true p14
                          replace q14 := eq_true q14
                          go_wp2
                          go_meet
                          case rel => exact ⟨_, (((bt a0 x8_2) != 34)), (by first | rfl | (simp; done) | (simp [*]; done) | (simp [wrap64]; done)), (by first | with_reducible exact H' | exact H' | (subst_vars; exact H')), ⟨by have := HJ2.out; have := HK2.out; first | omega | exact Nat.le_refl _⟩, ⟨by repeat (first | (with_reducible first | exact HB.out | apply below_alloc | apply pw_below_drewN | apply below_drew1) | exact HB.out)⟩⟩
                        · rw [if_neg c13] at H
                          exact absurd H (by simp)
                      · rw [if_neg c12] at H
                        have c12b0 : decide (x8_2 < (a0.size : Int)) = false := decide_eq_false c12
                        clear c12
                        (first | rw [c12b0] | (simp only [i64_w, i32_w]; rw [c12b0]) | skip)
                        have H' := Aside0.mk H
                        clear H
                        go_wp2
                        go_meet
                        case rel => exact ⟨_, (false), (by first | rfl | (simp; done) | (simp [*]; done) | (simp [wrap64]; done)), (by first | with_reducible exact H' | exact H' | (subst_vars; exact H')), ⟨by have := HJ2.out; have := HK2.out; first | omega | exact Nat.le_refl _⟩, ⟨by repeat (first | (with_reducible first | exact HB.out | apply below_alloc | apply pw_below_drewN | apply below_drew1) | exact HB.out)⟩⟩
                    case rest =>
                      clear HC11
                      try clear c1
                      try clear p1
                      try clear q1
                      try clear hx1
                      try clear c2
                      try clear p2
                      try clear c4
                      try clear c4b0
                      try clear c5
                      try clear c6
                      try clear c6b0
                      try clear c6b1
                      try clear p6
                      try clear c7
                      try clear c7b0
                      try clear c8
                      try clear c8b0
                      try clear p9
                      try clear q9
                      try clear hx9
                      try clear c10
                      try clear c10b0
                      try clear c10b1
                      try clear c12
                      try clear c12b0
                      try clear c13
                      try clear c13b0
                      try clear p14
                      try clear q14
                      try clear hx14
                      try clear p14
                      try clear p2
                      try clear p6
                      try clear p9
                      try clear q14
                      try clear q9
                      obtain ⟨kq, x39_10, rfl, HA, HJ10, HB⟩ := hcut
                      cases kq with
                      | zero => exact absurd HA.out (by simp [sealringref04_Unquote.j2])
                      | succ kj10 =>
                        have H := HA.out
                        clear HA
                        simp only [sealringref04_Unquote.j2] at H
                        by_cases c15 : x39_10 = true
                        · subst c15
                          have H1 : (if 0 ≤ x8_2 then (if x8_2 < (a0.size : Int) then (if (bt a0 x8_2) < 32 then (some ((⟨#[]⟩ : ByteArray), 0, 6)) else ((sealringref03_Next.f kj10 a0 x8_2).bind fun bt154 => (if (bt a0 x8_2) = 92 then ((sealringref04_escape.f kj10 a0 (wrap64 (x8_2 + 1))).bind fun bt156 => (sealringref04_Unquote.j3 kj10 a0 x7_2 x8_2 bt156.1 (wrap64 (bt156.2.1 + 1)) bt156.2.2)) else (sealringref04_Unquote.j3 kj10 a0 x7_2 x8_2 bt154.1 bt154.2 0)))) else (none)) else (none)) = some (r1, r2, r3) := by rw [if_pos rfl] at H; exact H
                          clear H
                          have H := H1
                          clear H1
                          by_cases c16 : 0 ≤ x8_2
                          · rw [if_pos c16] at H
                            have c16b0 : decide (0 ≤ x8_2) = true := decide_eq_true c16
                            clear c16
                            by_cases c17 : x8_2 < (a0.size : Int)
                            · rw [if_pos c17] at H
                              have c17b0 : decide (x8_2 < (a0.size : Int)) = true := decide_eq_true c17
                              clear c17
                              by_cases c19 : (bt a0 x8_2) < 32
                              · rw [if_pos c19] at H
                                have c19b0 : decide ((bt a0 x8_2) < 32) = true := decide_eq_true c19
                                clear c19
                                simp only [Option.some.injEq, Prod.mk.injEq] at H
                                obtain ⟨rfl, rfl, rfl⟩ := H
                                have p18 : 0 ≤ (x8_2 : Int) := of_decide_eq_true (by first | (with_reducible assumption) | assumption)
                                have q18 : x8_2 < (a0.size : Int) := of_decide_eq_true (by first | (with_reducible assumption) | assumption)
                                have hx18 := bt_at a0 x8_2
                                replace p18 := eq_true p18
                                replace q18 := eq_true q18
                                go_wp2
                                go_ret3
                                exact ⟨by first | rfl | (simp [errW_none, errW_some] <;> rfl) | (simp [*, errW_none, errW_some] <;> rfl), by repeat (first | (with_reducible first | exact HB.out | apply below_alloc | apply pw_below_drewN | apply below_drew1) | exact HB.out)⟩
                              · rw [if_neg c19] at H
                                have c19b0 : decide ((bt a0 x8_2) < 32) = false := decide_eq_false c19
                                clear c19
                                replace H := Option.bind_eq_some_iff.mp H
                                obtain ⟨⟨t154, t155⟩, A200, H⟩ := H
                                replace H : (if (bt a0 x8_2) = 92 then ((sealringref04_escape.f kj10 a0 (wrap64 (x8_2 + 1))).bind fun bt156 => (sealringref04_Unquote.j3 kj10 a0 x7_2 x8_2 bt156.1 (wrap64 (bt156.2.1 + 1)) bt156.2.2)) else (sealringref04_Unquote.j3 kj10 a0 x7_2 x8_2 t154 t155 0)) = some (r1, r2, r3) := H
                                have A20 := Aside0.mk A200
                                clear A200
                                have HC22 := Aside0.mk H
                                clear H
                                have p18 : 0 ≤ (x8_2 : Int) := of_decide_eq_true (by first | (with_reducible assumption) | assumption)
                                have q18 : x8_2 < (a0.size : Int) := of_decide_eq_true (by first | (with_reducible assumption) | assumption)
                                have hx18 := bt_at a0 x8_2
                                replace p18 := eq_true p18
                                replace q18 := eq_true q18
                                go_upto_if 53 with (first | ((with_reducible refine gate_callee (f := 29) rfl ?_); refine goesL_ (some 47) rfl rfl Try.func29 (by kernel_rfl) rfl #[.string a0, .int .i64 x8_2] rfl (by (try simp only [List.map_toArray, List.map_cons, List.map_nil]); first | done | rfl | (simp only [List.length_drop, List.length_take]; rfl)) ?_; (with_reducible refine (sealringref03_Next.calls kj10 a0 x8_2 t154 t155 _ A20.out).mono ?_); rintro e w23 ⟨rfl, hb⟩; refine ⟨_, rfl, ?_⟩; have n0_ := Aside0.mk (below_step (by repeat (first | (with_reducible first | exact HB.out | apply below_alloc | apply pw_below_drewN | apply below_drew1) | exact HB.out)) hb); clear HB; have HB := n0_; clear n0_; (try clear hb); (try clear hb2); (try clear hk); (try clear hi); have p21 : 0 ≤ (x8_2 : Int) := of_decide_eq_true (by first | (with_reducible assumption) | assumption); have q21 : x8_2 < (a0.size : Int) := of_decide_eq_true (by first | (with_reducible assumption) | assumption); have hx21 := bt_at a0 x8_2; replace p21 := eq_true p21; replace q21 := eq_true q21))
                                (try simp only [Act.put, List.setIfInBounds_toArray, List.set_cons_zero, List.set_cons_succ])
                                go_cut [9, 10, 11] (fun v9 v10 v11 wc => ∃ (kq : Nat) (x9_21 : Int) (x10_21 : Int) (x11_21 : Int), v9 = .int .i64 x9_21 ∧ v10 = .int .i64 x10_21 ∧ v11 = .int .i64 x11_21 ∧ Aside0 (sealringref04_Unquote.j3 kq a0 x7_2 x8_2 x9_21 x10_21 x11_21 = some (r1, r2, r3)) ∧ Aside0 (kq ≤ kj10) ∧ Aside0 (Below w.heap.size w wc))
                                case first =>
                                  have H := HC22.out
                                  clear HC22
                                  by_cases c24 : (bt a0 x8_2) = 92
                                  · rw [if_pos c24] at H
                                    have c24b0 : ((bt a0 x8_2) == 92) = true := beq_iff_eq.mpr c24
                                    have c24b1 : ((bt a0 x8_2) != 92) = false := bne_eq_false_iff_eq.mpr c24
                                    clear c24
                                    (first | rw [c24b0] | (simp only [i64_w, i32_w]; rw [c24b0]) | skip)
                                    replace H := Option.bind_eq_some_iff.mp H
                                    obtain ⟨⟨t156, t157, t158⟩, A250, H⟩ := H
                                    replace H : (sealringref04_Unquote.j3 kj10 a0 x7_2 x8_2 t156 (wrap64 (t157 + 1)) t158) = some (r1, r2, r3) := H
                                    have A25 := Aside0.mk A250
                                    clear A250
                                    have H' := Aside0.mk H
                                    clear H
                                    go_wp2_with (first | ((with_reducible refine gate_callee (f := 30) rfl ?_); refine goesL_ (some 58) rfl rfl Try.func30 (by kernel_rfl) rfl #[.string a0, .int .i64 (wrap64 (x8_2 + 1))] rfl (by (try simp only [List.map_toArray, List.map_cons, List.map_nil]); first | done | rfl | (simp only [List.length_drop, List.length_take]; rfl)) ?_; (with_reducible refine (sealringref04_escape.calls kj10 a0 (wrap64 (x8_2 + 1)) t156 t157 t158 _ A25.out).mono ?_); rintro e w' ⟨rfl, ⟨nd, rfl⟩⟩; refine ⟨_, rfl, ?_⟩))
                                    go_meet
                                    case rel => exact ⟨_, (t156), (wrap64 (t157 + 1)), (t158), (by first | rfl | (simp; done) | (simp [*]; done) | (simp [wrap64]; done)), (by first | rfl | (simp; done) | (simp [*]; done) | (simp [wrap64]; done)), (by first | rfl | (simp; done) | (simp [*]; done) | (simp [wrap64]; done)), (by first | with_reducible exact H' | exact H' | (subst_vars; exact H')), ⟨by have := HJ2.out; have := HK2.out; have := HJ10.out; first | omega | exact Nat.le_refl _⟩, ⟨by repeat (first | (with_reducible first | exact HB.out | apply below_alloc | apply pw_below_drewN | apply below_drew1) | exact HB.out)⟩⟩
                                  · rw [if_neg c24] at H
                                    have c24b0 : ((bt a0 x8_2) == 92) = false := beq_eq_false_iff_ne.mpr c24
                                    have c24b1 : ((bt a0 x8_2) != 92) = true := bne_iff_ne.mpr c24
                                    (first | rw [c24b0] | (simp only [i64_w, i32_w]; rw [c24b0]) | skip)
                                    have H' := Aside0.mk H
                                    clear H
                                    go_wp2
                                    go_meet
                                    case rel => exact ⟨_, (t154), (t155), (0), (by first | rfl | (simp; done) | (simp [*]; done) | (simp [wrap64]; done)), (by first | rfl | (simp; done) | (simp [*]; done) | (simp [wrap64]; done)), (by first | rfl | (simp; done) | (simp [*]; done) | (simp [wrap64]; done)), (by first | with_reducible exact H' | exact H' | (subst_vars; exact H')), ⟨by have := HJ2.out; have := HK2.out; have := HJ10.out; first | omega | exact Nat.le_refl _⟩, ⟨by repeat (first | (with_reducible first | exact HB.out | apply below_alloc | apply pw_below_drewN | apply below_drew1) | exact HB.out)⟩⟩
                                case rest =>
                                  clear HC22
                                  try clear c1
                                  try clear p1
                                  try clear q1
                                  try clear hx1
                                  try clear c2
                                  try clear p2
                                  try clear q2
                                  try clear hx2
                                  try clear c3
                                  try clear c4
                                  try clear c4b0
                                  try clear c5
                                  try clear c6
                                  try clear c6b0
                                  try clear c6b1
                                  try clear p6
                                  try clear c7
                                  try clear c7b0
                                  try clear c8
                                  try clear c8b0
                                  try clear p9
                                  try clear q9
                                  try clear hx9
                                  try clear c10
                                  try clear c10b0
                                  try clear c10b1
                                  try clear c12
                                  try clear c12b0
                                  try clear c13
                                  try clear c13b0
                                  try clear p14
                                  try clear q14
                                  try clear hx14
                                  try clear c15
                                  try clear c16
                                  try clear c16b0
                                  try clear c17
                                  try clear c17b0
                                  try clear p18
                                  try clear q18
                                  try clear hx18
                                  try clear c19
                                  try clear c19b0
                                  try clear p21
                                  try clear q21
                                  try clear hx21
                                  try clear c22
                                  try clear c24
                                  try clear c24b0
                                  try clear c24b1
                                  try clear p1
                                  try clear p14
                                  try clear p18
                                  try clear p2
                                  try clear p21
                                  try clear p6
                                  try clear p9
                                  try clear q1
                                  try clear q14
                                  try clear q18
                                  try clear q21
                                  try clear q9
                                  obtain ⟨kq, x9_21, x10_21, x11_21, rfl, rfl, rfl, HA, HJ21, HB⟩ := hcut
                                  cases kq with
                                  | zero => exact absurd HA.out (by simp [sealringref04_Unquote.j3])
                                  | succ kj21 =>
                                    have H := HA.out
                                    clear HA
                                    simp only [sealringref04_Unquote.j3] at H
                                    by_cases c26 : x11_21 = 0
                                    · rw [if_pos c26] at H
                                      have c26b0 : (x11_21 == 0) = true := beq_iff_eq.mpr c26
                                      have c26b1 : (x11_21 != 0) = false := bne_eq_false_iff_eq.mpr c26
                                      clear c26
                                      by_cases c27 : x10_21 = 0
                                      · rw [if_pos c27] at H
                                        have c27b0 : (x10_21 == 0) = true := beq_iff_eq.mpr c27
                                        have c27b1 : (x10_21 != 0) = false := bne_eq_false_iff_eq.mpr c27
                                        clear c27
                                        simp only [Option.some.injEq, Prod.mk.injEq] at H
                                        obtain ⟨rfl, rfl, rfl⟩ := H
                                        go_wp2
                                        go_ret3
                                        exact ⟨by first | rfl | (simp [errW_none, errW_some] <;> rfl) | (simp [*, errW_none, errW_some] <;> rfl), by repeat (first | (with_reducible first | exact HB.out | apply below_alloc | apply pw_below_drewN | apply below_drew1) | exact HB.out)⟩
                                      · rw [if_neg c27] at H
                                        have c27b0 : (x10_21 == 0) = false := beq_eq_false_iff_ne.mpr c27
                                        have c27b1 : (x10_21 != 0) = true := bne_iff_ne.mpr c27
                                        replace H := Option.bind_eq_some_iff.mp H
                                        obtain ⟨t159, A280, H⟩ := H
                                        replace H : (if x7_2.size + t159.size ≤ 9223372036854775807 then (sealringref04_Unquote.l0 kj21 a0 (x7_2 ++ t159) (wrap64 (x8_2 + x10_21))) else (none)) = some (r1, r2, r3) := H
                                        have A28 := Aside0.mk A280
                                        clear A280
                                        by_cases c29 : x7_2.size + t159.size ≤ 9223372036854775807
                                        · rw [if_pos c29] at H
                                          have c29b0 := eq_true c29
                                          have c29b1 : decide (x7_2.size + t159.size ≤ 9223372036854775807) = true := decide_eq_true c29
                                          try have c29b2 : (9223372036854775807 < x7_2.size + t159.size) = False := eq_false (Nat.not_lt.2 c29)
                                          have H' := Aside0.mk H
                                          clear H
                                          go_wp2_with (first | ((with_reducible refine gate_callee (f := 31) rfl ?_); refine goesL_ (some 71) rfl rfl Try.func31 (by kernel_rfl) rfl #[.int .i64 x9_21] rfl (by (try simp only [List.map_toArray, List.map_cons, List.map_nil]); first | done | rfl | (simp only [List.length_drop, List.length_take]; rfl)) ?_; (with_reducible refine (sealringref03_Form.calls x9_21 t159 _ A28.out).mono ?_); rintro e w30 ⟨rfl, hb⟩; refine ⟨_, rfl, ?_⟩; have n0_ := Aside0.mk (below_step (by repeat (first | (with_reducible first | exact HB.out | apply below_alloc | apply pw_below_drewN | apply below_drew1) | exact HB.out)) hb); clear HB; have HB := n0_; clear n0_; (try clear hb); (try clear hb2); (try clear hk); (try clear hi)))
                                          go_roundg kj21
                                          case measure => have := HJ2.out; have := HK2.out; have := HJ10.out; have := HJ21.out; omega
                                          case rel => exact ⟨(x7_2 ++ t159), (wrap64 (x8_2 + x10_21)), (by first | rfl | (simp; done) | (simp [*]; done) | (simp [wrap64]; done)), (by first | rfl | (simp; done) | (simp [*]; done) | (simp [wrap64]; done)), (by first | with_reducible exact H' | exact H' | (subst_vars; exact H')), ⟨by have := HJ2.out; have := HK2.out; have := HJ10.out; have := HJ21.out; omega⟩, ⟨by repeat (first | (with_reducible first | exact HB.out | apply below_alloc | apply pw_below_drewN | apply below_drew1) | exact HB.out)⟩⟩
                                        · rw [if_neg c29] at H
                                          exact absurd H (by simp)
                                    · rw [if_neg c26] at H
                                      have c26b0 : (x11_21 == 0) = false := beq_eq_false_iff_ne.mpr c26
                                      have c26b1 : (x11_21 != 0) = true := bne_iff_ne.mpr c26
                                      simp only [Option.some.injEq, Prod.mk.injEq] at H
                                      obtain ⟨rfl, rfl, rfl⟩ := H
                                      go_wp2
                                      go_ret3
                                      exact ⟨by first | rfl | (simp [errW_none, errW_some] <;> rfl) | (simp [*, errW_none, errW_some] <;> rfl), by repeat (first | (with_reducible first | exact HB.out | apply below_alloc | apply pw_below_drewN | apply below_drew1) | exact HB.out)⟩
                            · rw [if_neg c17] at H
                              exact absurd H (by simp)
                          · rw [if_neg c16] at H
                            exact absurd H (by simp)
                        · replace c15 := Bool.eq_false_iff.mpr c15
                          subst c15
                          have H1 : (if x8_2 ≥ (a0.size : Int) then (some ((⟨#[]⟩ : ByteArray), 0, 5)) else (some (x7_2, wrap64 (x8_2 + 1), 0))) = some (r1, r2, r3) := by rw [if_neg (show ¬ (false = true) by decide)] at H; exact H
                          clear H
                          have H := H1
                          clear H1
                          by_cases c31 : x8_2 ≥ (a0.size : Int)
                          · rw [if_pos c31] at H
                            have c31b0 : decide ((a0.size : Int) ≤ x8_2) = true := decide_eq_true c31
                            clear c31
                            simp only [Option.some.injEq, Prod.mk.injEq] at H
                            obtain ⟨rfl, rfl, rfl⟩ := H
                            go_wp2
                            go_ret3
                            exact ⟨by first | rfl | (simp [errW_none, errW_some] <;> rfl) | (simp [*, errW_none, errW_some] <;> rfl), by repeat (first | (with_reducible first | exact HB.out | apply below_alloc | apply pw_below_drewN | apply below_drew1) | exact HB.out)⟩
                          · rw [if_neg c31] at H
                            have c31b0 : decide ((a0.size : Int) ≤ x8_2) = false := decide_eq_false c31
                            clear c31
                            simp only [Option.some.injEq, Prod.mk.injEq] at H
                            obtain ⟨rfl, rfl, rfl⟩ := H
                            go_wp2
                            go_ret3
                            exact ⟨by first | rfl | (simp [errW_none, errW_some] <;> rfl) | (simp [*, errW_none, errW_some] <;> rfl), by repeat (first | (with_reducible first | exact HB.out | apply below_alloc | apply pw_below_drewN | apply below_drew1) | exact HB.out)⟩
              · rw [if_neg c10] at H
                have c10b0 : ((bt a0 a1) == 34) = false := beq_eq_false_iff_ne.mpr c10
                have c10b1 : ((bt a0 a1) != 34) = true := bne_iff_ne.mpr c10
                simp only [Option.some.injEq, Prod.mk.injEq] at H
                obtain ⟨rfl, rfl, rfl⟩ := H
                have p9 : 0 ≤ (a1 : Int) := of_decide_eq_true (by first | (with_reducible assumption) | assumption)
                have q9 : a1 < (a0.size : Int) := of_decide_eq_true (by first | (with_reducible assumption) | assumption)
                have hx9 := bt_at a0 a1
                replace p9 := eq_true p9
                replace q9 := eq_true q9
                go_wp2
                go_ret3
                exact ⟨by first | rfl | (simp [errW_none, errW_some] <;> rfl) | (simp [*, errW_none, errW_some] <;> rfl), by repeat (first | (with_reducible first | exact HB.out | apply below_alloc | apply pw_below_drewN | apply below_drew1) | exact HB.out)⟩
            · rw [if_neg c8] at H
              exact absurd H (by simp)
          · rw [if_neg c7] at H
            exact absurd H (by simp)
end Go.Proofs.Ytjdgjifacdnkgaa.X
end
section
namespace Go.Proofs.Ytjdgjifacdnkgaa.X
open Go.RowKit Go.Proofs.YtjdgjifacdnkgaaW.PrintWords Go.Proofs.YtjdgjifacdnkgaaW.PrintLast Go.Proofs.YtjdgjifacdnkgaaW.PrintMore
attribute [local go_sem] max2_int min2_int max_two min_two max_three min_three max_four min_four
set_option linter.unusedVariables false
set_option linter.unusedSimpArgs false
def sealringref05_digits.l0 : Nat → ByteArray → Int → Int → Option (Int)
  | 0, _, _, _ => none
  | k + 1, x0, x1, x5 => if (wrap64 (x1 + x5)) < (x0.size : Int) then (if 0 ≤ (wrap64 (x1 + x5)) then (if (bt x0 (wrap64 (x1 + x5))) ≥ 48 then (if (bt x0 (wrap64 (x1 + x5))) ≤ 57 then (sealringref05_digits.l0 k x0 x1 (wrap64 (x5 + 1))) else (some x5)) else (some x5)) else (none)) else (some x5)
def sealringref05_digits.f (k : Nat) (a0 : ByteArray) (a1 : Int) : Option (Int) := sealringref05_digits.l0 k a0 a1 0
theorem sealringref05_digits.mono_l : ∀ k, (∀ y0 y1 y2, LeO (sealringref05_digits.l0 k y0 y1 y2) (sealringref05_digits.l0 (k + 1) y0 y1 y2))
  | 0 => fun _ _ _ r h => by simp [sealringref05_digits.l0] at h
  | k + 1 => by
    have ih0 := sealringref05_digits.mono_l k
    · intro y0 y1 y2
      unfold sealringref05_digits.l0
      repeat' first
      | (with_reducible exact ih0 _ _ _)
      | (with_reducible exact LeO.refl _)
      | (with_reducible exact LeO.none _)
      | (with_reducible refine LeO.ite ?_ ?_)
      | (with_reducible refine LeO.bind ?_ (fun _ => ?_))
      | exact ih0 _ _ _
      | exact LeO.none _
      | refine LeO.ite ?_ ?_
      | refine LeO.bind ?_ (fun _ => ?_)
theorem sealringref05_digits.mono : ∀ a0 a1 k, LeO (sealringref05_digits.f k a0 a1) (sealringref05_digits.f (k + 1) a0 a1) := by
  intro a0 a1 k
  have ih0 := sealringref05_digits.mono_l k
  unfold sealringref05_digits.f
  repeat' first
      | (with_reducible exact ih0 _ _ _)
      | (with_reducible exact LeO.refl _)
      | (with_reducible exact LeO.none _)
      | (with_reducible refine LeO.ite ?_ ?_)
      | (with_reducible refine LeO.bind ?_ (fun _ => ?_))
      | exact ih0 _ _ _
      | exact LeO.none _
      | refine LeO.ite ?_ ?_
      | refine LeO.bind ?_ (fun _ => ?_)
set_option maxHeartbeats 8000000 in
set_option maxRecDepth 100000 in
theorem sealringref05_digits.calls (k : Nat) (a0 : ByteArray) (a1 : Int) (r : Int) (w : World) (h : sealringref05_digits.f k a0 a1 = some r) :
    Calls Try.prog 32 #[.string a0, .int .i64 a1] w fun e w' => e = .returned (.int .i64 r) ∧ Drawn0 w w' := by
  have H : (sealringref05_digits.l0 k a0 a1 0) = some r := h
  clear h
  have H' := Aside0.mk H
  clear H
  go_enter Try.func32, Try.ntmps32
  go_wp2
  go_loopg [5] k (fun kq v5 w' => ∃ (x5_1 : Int), v5 = .int .i64 x5_1 ∧ Aside0 (sealringref05_digits.l0 kq a0 a1 x5_1 = some r) ∧ Aside0 (kq ≤ k) ∧ Drawn0 w w')
  case atStart => exact ⟨(0), (by first | rfl | (simp; done) | (simp [*]; done) | (simp [wrap64]; done)), (by first | with_reducible exact H' | exact H' | (subst_vars; exact H')), ⟨Nat.le_refl _⟩, by repeat (first | exact Drawn0.refl _ | apply Drawn0.step)⟩
  case round =>
    clear H'
    try clear p2
    obtain ⟨x5_1, rfl, HA, HK1, ⟨m1, rfl⟩⟩ := hrel
    cases gk with
    | zero => exact absurd HA.out (by simp [sealringref05_digits.l0])
    | succ k1 =>
      have H := HA.out
      clear HA
      simp only [sealringref05_digits.l0] at H
      by_cases c3 : (wrap64 (a1 + x5_1)) < (a0.size : Int)
      · rw [if_pos c3] at H
        have c3b0 : decide ((wrap64 (a1 + x5_1)) < (a0.size : Int)) = true := decide_eq_true c3
        clear c3
        obtain ⟨ji4, hji4⟩ : ∃ j_ : Int, (wrap64 (a1 + x5_1)) = j_ := ⟨_, rfl⟩
        replace H : (if 0 ≤ (ji4) then (if (bt a0 (ji4)) ≥ 48 then (if (bt a0 (ji4)) ≤ 57 then (sealringref05_digits.l0 k1 a0 a1 (wrap64 (x5_1 + 1))) else (some x5_1)) else (some x5_1)) else (none)) = some r := by first | (rw [hji4] at H; exact H) | (simp only [hji4] at H ⊢; exact H)
        (try rw [hji4] at c3b0)
        have hji4w : (IntKind.i64.wrap (a1 + x5_1)) = ji4 := (i64_w _).trans hji4
        by_cases c5 : 0 ≤ (ji4)
        · rw [if_pos c5] at H
          have c5b0 : decide (0 ≤ (ji4)) = true := decide_eq_true c5
          clear c5
          by_cases c7 : (bt a0 (ji4)) ≥ 48
          · rw [if_pos c7] at H
            have c7b0 : decide (48 ≤ (bt a0 (ji4))) = true := decide_eq_true c7
            clear c7
            by_cases c9 : (bt a0 (ji4)) ≤ 57
            · rw [if_pos c9] at H
              have c9b0 : decide ((bt a0 (ji4)) ≤ 57) = true := decide_eq_true c9
              clear c9
              have H' := Aside0.mk H
              clear H
              have p6 : 0 ≤ ((ji4) : Int) := of_decide_eq_true (by first | (with_reducible assumption) | assumption)
              have q6 : (ji4) < (a0.size : Int) := of_decide_eq_true (by first | (with_reducible assumption) | assumption)
              have hx6 := bt_at a0 (ji4)
              replace p6 := eq_true p6
              replace q6 := eq_true q6
              have p8 : 0 ≤ ((ji4) : Int) := of_decide_eq_true (by first | (with_reducible assumption) | assumption)
              have q8 : (ji4) < (a0.size : Int) := of_decide_eq_true (by first | (with_reducible assumption) | assumption)
              have hx8 := bt_at a0 (ji4)
              replace p8 := eq_true p8
              replace q8 := eq_true q8
              go_wp2
              go_roundg k1
              case measure => have := HK1.out; omega
              case rel => exact ⟨(wrap64 (x5_1 + 1)), (by first | rfl | (simp; done) | (simp [*]; done) | (simp [wrap64]; done)), (by first | with_reducible exact H' | exact H' | (subst_vars; exact H')), ⟨by have := HK1.out; omega⟩, by repeat (first | exact Drawn0.refl _ | apply Drawn0.step)⟩
            · rw [if_neg c9] at H
              have c9b0 : decide ((bt a0 (ji4)) ≤ 57) = false := decide_eq_false c9
              clear c9
              obtain rfl := Option.some.inj H
              have p6 : 0 ≤ ((ji4) : Int) := of_decide_eq_true (by first | (with_reducible assumption) | assumption)
              have q6 : (ji4) < (a0.size : Int) := of_decide_eq_true (by first | (with_reducible assumption) | assumption)
              have hx6 := bt_at a0 (ji4)
              replace p6 := eq_true p6
              replace q6 := eq_true q6
              have p8 : 0 ≤ ((ji4) : Int) := of_decide_eq_true (by first | (with_reducible assumption) | assumption)
              have q8 : (ji4) < (a0.size : Int) := of_decide_eq_true (by first | (with_reducible assumption) | assumption)
              have hx8 := bt_at a0 (ji4)
              replace p8 := eq_true p8
              replace q8 := eq_true q8
              go_wp2
              go_ret
              exact ⟨by first | rfl | (simp; done) | (simp only [← hji4] <;> (first | rfl | simp)) | (simp [*]; done), by repeat (first | exact Drawn0.refl _ | apply Drawn0.step)⟩
          · rw [if_neg c7] at H
            have c7b0 : decide (48 ≤ (bt a0 (ji4))) = false := decide_eq_false c7
            clear c7
            obtain rfl := Option.some.inj H
            have p6 : 0 ≤ ((ji4) : Int) := of_decide_eq_true (by first | (with_reducible assumption) | assumption)
            have q6 : (ji4) < (a0.size : Int) := of_decide_eq_true (by first | (with_reducible assumption) | assumption)
            have hx6 := bt_at a0 (ji4)
            replace p6 := eq_true p6
            replace q6 := eq_true q6
            go_wp2
            go_ret
            exact ⟨by first | rfl | (simp; done) | (simp only [← hji4] <;> (first | rfl | simp)) | (simp [*]; done), by repeat (first | exact Drawn0.refl _ | apply Drawn0.step)⟩
        · rw [if_neg c5] at H
          exact absurd H (by simp)
      · rw [if_neg c3] at H
        have c3b0 : decide ((wrap64 (a1 + x5_1)) < (a0.size : Int)) = false := decide_eq_false c3
        clear c3
        obtain rfl := Option.some.inj H
        go_wp2
        go_ret
        exact ⟨by first | rfl | (simp; done) | (simp [*]; done), by repeat (first | exact Drawn0.refl _ | apply Drawn0.step)⟩
end Go.Proofs.Ytjdgjifacdnkgaa.X
end
section
namespace Go.Proofs.Ytjdgjifacdnkgaa.X
open Go.RowKit Go.Proofs.YtjdgjifacdnkgaaW.PrintWords Go.Proofs.YtjdgjifacdnkgaaW.PrintLast Go.Proofs.YtjdgjifacdnkgaaW.PrintMore
attribute [local go_sem] max2_int min2_int max_two min_two max_three min_three max_four min_four
set_option linter.unusedVariables false
set_option linter.unusedSimpArgs false
def sealringref05_small.l0 : Nat → ByteArray → Int → Int → Option (Int × Bool)
  | 0, _, _, _ => none
  | k + 1, x0, x4, x5 => if x5 < (x0.size : Int) then (if 0 ≤ x5 then (sealringref05_small.l0 k x0 (wrap64 ((wrap64 (10 * x4)) + (((bt x0 x5) - 48) % 256))) (wrap64 (x5 + 1))) else (none)) else (some (x4, decide (x4 ≤ 9007199254740991)))
def sealringref05_small.f (k : Nat) (a0 : ByteArray) : Option (Int × Bool) := if (a0.size : Int) > 16 then (some (0, false)) else (sealringref05_small.l0 k a0 0 0)
theorem sealringref05_small.mono_l : ∀ k, (∀ y0 y1 y2, LeO (sealringref05_small.l0 k y0 y1 y2) (sealringref05_small.l0 (k + 1) y0 y1 y2))
  | 0 => fun _ _ _ r h => by simp [sealringref05_small.l0] at h
  | k + 1 => by
    have ih0 := sealringref05_small.mono_l k
    · intro y0 y1 y2
      unfold sealringref05_small.l0
      repeat' first
      | (with_reducible exact ih0 _ _ _)
      | (with_reducible exact LeO.refl _)
      | (with_reducible exact LeO.none _)
      | (with_reducible refine LeO.ite ?_ ?_)
      | (with_reducible refine LeO.bind ?_ (fun _ => ?_))
      | exact ih0 _ _ _
      | exact LeO.none _
      | refine LeO.ite ?_ ?_
      | refine LeO.bind ?_ (fun _ => ?_)
theorem sealringref05_small.mono : ∀ a0 k, LeO (sealringref05_small.f k a0) (sealringref05_small.f (k + 1) a0) := by
  intro a0 k
  have ih0 := sealringref05_small.mono_l k
  unfold sealringref05_small.f
  repeat' first
      | (with_reducible exact ih0 _ _ _)
      | (with_reducible exact LeO.refl _)
      | (with_reducible exact LeO.none _)
      | (with_reducible refine LeO.ite ?_ ?_)
      | (with_reducible refine LeO.bind ?_ (fun _ => ?_))
      | exact ih0 _ _ _
      | exact LeO.none _
      | refine LeO.ite ?_ ?_
      | refine LeO.bind ?_ (fun _ => ?_)
set_option maxHeartbeats 8000000 in
set_option maxRecDepth 100000 in
theorem sealringref05_small.calls (k : Nat) (a0 : ByteArray) (r1 : Int) (r2 : Bool) (w : World) (h : sealringref05_small.f k a0 = some (r1, r2)) :
    Calls Try.prog 33 #[.string a0] w fun e w' => e = .returned (.tuple #[.int .i64 r1, .bool r2]) ∧ Drawn0 w w' := by
  have H : (if (a0.size : Int) > 16 then (some (0, false)) else (sealringref05_small.l0 k a0 0 0)) = some (r1, r2) := h
  clear h
  by_cases c2 : (a0.size : Int) > 16
  · rw [if_pos c2] at H
    have c2b0 : decide (16 < (a0.size : Int)) = true := decide_eq_true c2
    have c2b1 : decide (16 < a0.size) = true := decide_eq_true (by omega)
    clear c2
    simp only [Option.some.injEq, Prod.mk.injEq] at H
    obtain ⟨rfl, rfl⟩ := H
    go_enter Try.func33, Try.ntmps33
    go_wp2
    go_ret2
    exact ⟨by first | rfl | (simp; done) | (simp [*]; done), by repeat (first | exact Drawn0.refl _ | apply Drawn0.step)⟩
  · rw [if_neg c2] at H
    have c2b0 : decide (16 < (a0.size : Int)) = false := decide_eq_false c2
    have c2b1 : decide (16 < a0.size) = false := decide_eq_false (by omega)
    clear c2
    have H' := Aside0.mk H
    clear H
    go_enter Try.func33, Try.ntmps33
    go_wp2
    go_loopg [4, 5] k (fun kq v4 v5 w' => ∃ (x4_1 : Int) (x5_1 : Int), v4 = .int .i64 x4_1 ∧ v5 = .int .i64 x5_1 ∧ Aside0 (sealringref05_small.l0 kq a0 x4_1 x5_1 = some (r1, r2)) ∧ Aside0 (kq ≤ k) ∧ Drawn0 w w')
    case atStart => exact ⟨(0), (0), (by first | rfl | (simp; done) | (simp [*]; done) | (simp [wrap64]; done)), (by first | rfl | (simp; done) | (simp [*]; done) | (simp [wrap64]; done)), (by first | with_reducible exact H' | exact H' | (subst_vars; exact H')), ⟨Nat.le_refl _⟩, by repeat (first | exact Drawn0.refl _ | apply Drawn0.step)⟩
    case round =>
      clear H'
      try clear c2
      try clear c2b0
      try clear c2b1
      try clear p2
      obtain ⟨x4_1, x5_1, rfl, rfl, HA, HK1, ⟨m1, rfl⟩⟩ := hrel
      cases gk with
      | zero => exact absurd HA.out (by simp [sealringref05_small.l0])
      | succ k1 =>
        have H := HA.out
        clear HA
        simp only [sealringref05_small.l0] at H
        by_cases c3 : x5_1 < (a0.size : Int)
        · rw [if_pos c3] at H
          have c3b0 : decide (x5_1 < (a0.size : Int)) = true := decide_eq_true c3
          clear c3
          by_cases c4 : 0 ≤ x5_1
          · rw [if_pos c4] at H
            have c4b0 : decide (0 ≤ x5_1) = true := decide_eq_true c4
            clear c4
            have H' := Aside0.mk H
            clear H
            have p5 : 0 ≤ (x5_1 : Int) := of_decide_eq_true (by first | (with_reducible assumption) | assumption)
            have q5 : x5_1 < (a0.size : Int) := of_decide_eq_true (by first | (with_reducible assumption) | assumption)
            have hx5 := bt_at a0 x5_1
            replace p5 := eq_true p5
            replace q5 := eq_true q5
            go_wp2
            go_roundg k1
            case measure => have := HK1.out; omega
            case rel => exact ⟨(wrap64 ((wrap64 (10 * x4_1)) + (((bt a0 x5_1) - 48) % 256))), (wrap64 (x5_1 + 1)), (by first | rfl | (simp; done) | (simp [*]; done) | (simp [wrap64]; done)), (by first | rfl | (simp; done) | (simp [*]; done) | (simp [wrap64]; done)), (by first | with_reducible exact H' | exact H' | (subst_vars; exact H')), ⟨by have := HK1.out; omega⟩, by repeat (first | exact Drawn0.refl _ | apply Drawn0.step)⟩
          · rw [if_neg c4] at H
            exact absurd H (by simp)
        · rw [if_neg c3] at H
          have c3b0 : decide (x5_1 < (a0.size : Int)) = false := decide_eq_false c3
          clear c3
          simp only [Option.some.injEq, Prod.mk.injEq] at H
          obtain ⟨rfl, rfl⟩ := H
          go_wp2
          go_ret2
          exact ⟨by first | rfl | (simp; done) | (simp [*]; done), by repeat (first | exact Drawn0.refl _ | apply Drawn0.step)⟩
end Go.Proofs.Ytjdgjifacdnkgaa.X
end
section
namespace Go.Proofs.Ytjdgjifacdnkgaa.X
open Go.RowKit Go.Proofs.YtjdgjifacdnkgaaW.PrintWords Go.Proofs.YtjdgjifacdnkgaaW.PrintLast Go.Proofs.YtjdgjifacdnkgaaW.PrintMore
attribute [local go_sem] max2_int min2_int max_two min_two max_three min_three max_four min_four
set_option linter.unusedVariables false
set_option linter.unusedSimpArgs false
mutual
def sealringref05_Scan.j0 : Nat → ByteArray → Int → Bool → Option (Int × Int × Int)
  | 0, _, _, _ => none
  | k + 1, x0, x1, x20 => if x20 = true then (some (0, 0, 1)) else (if x1 < (x0.size : Int) then (if 0 ≤ x1 then (sealringref05_Scan.j1 k x0 x1 0 ((bt x0 x1) == 45)) else (none)) else (sealringref05_Scan.j1 k x0 x1 0 false))
def sealringref05_Scan.j1 : Nat → ByteArray → Int → Int → Bool → Option (Int × Int × Int)
  | 0, _, _, _, _ => none
  | k + 1, x0, x1, x7, x30 => if x30 = true then (sealringref05_Scan.j2 k x0 x1 1) else (sealringref05_Scan.j2 k x0 x1 x7)
def sealringref05_Scan.j2 : Nat → ByteArray → Int → Int → Option (Int × Int × Int)
  | 0, _, _, _ => none
  | k + 1, x0, x1, x7 => if (wrap64 (x1 + x7)) = (x0.size : Int) then (some (0, 0, 5)) else ((sealringref05_digits.f k x0 (wrap64 (x1 + x7))).bind fun t160 => (if t160 = 0 then (some (0, 0, 6)) else (if 0 ≤ (wrap64 (x1 + x7)) then (if (wrap64 (x1 + x7)) < (x0.size : Int) then (if (bt x0 (wrap64 (x1 + x7))) = 48 then (if t160 > 1 then (sealringref05_Scan.j3 k x0 x7 (wrap64 (x1 + x7)) (wrap64 ((wrap64 (x1 + x7)) + t160)) true) else (sealringref05_Scan.j3 k x0 x7 (wrap64 (x1 + x7)) (wrap64 ((wrap64 (x1 + x7)) + t160)) (x7 == 1))) else (sealringref05_Scan.j3 k x0 x7 (wrap64 (x1 + x7)) (wrap64 ((wrap64 (x1 + x7)) + t160)) false)) else (none)) else (none))))
def sealringref05_Scan.j3 : Nat → ByteArray → Int → Int → Int → Bool → Option (Int × Int × Int)
  | 0, _, _, _, _, _ => none
  | k + 1, x0, x7, x8, x10, x57 => if x57 = true then (some (0, 0, 12)) else (if x10 < (x0.size : Int) then (if 0 ≤ x10 then (if (bt x0 x10) = 46 then (sealringref05_Scan.j4 k x0 x7 x8 x10 true) else (if (bt x0 x10) = 101 then (sealringref05_Scan.j4 k x0 x7 x8 x10 true) else (sealringref05_Scan.j4 k x0 x7 x8 x10 ((bt x0 x10) == 69)))) else (none)) else (sealringref05_Scan.j4 k x0 x7 x8 x10 false))
def sealringref05_Scan.j4 : Nat → ByteArray → Int → Int → Int → Bool → Option (Int × Int × Int)
  | 0, _, _, _, _, _ => none
  | k + 1, x0, x7, x8, x10, x79 => if x79 = true then (some (0, 0, 12)) else (if 0 ≤ x8 then (if x8 ≤ x10 then (if x10 ≤ (x0.size : Int) then ((sealringref05_small.f k (x0.extract (x8 : Int).toNat (x10 : Int).toNat)).bind fun bt161 => (if bt161.2 = true then (if x7 = 1 then (some (wrap64 (-bt161.1), x10, 0)) else (some (bt161.1, x10, 0))) else (some (0, 0, 2)))) else (none)) else (none)) else (none))
end
def sealringref05_Scan.f (k : Nat) (a0 : ByteArray) (a1 : Int) : Option (Int × Int × Int) := if a1 < 0 then (sealringref05_Scan.j0 k a0 a1 true) else (sealringref05_Scan.j0 k a0 a1 (decide (a1 > (a0.size : Int))))
theorem sealringref05_Scan.mono_l : ∀ k, (∀ y0 y1 y2, LeO (sealringref05_Scan.j0 k y0 y1 y2) (sealringref05_Scan.j0 (k + 1) y0 y1 y2)) ∧ (∀ y0 y1 y2 y3, LeO (sealringref05_Scan.j1 k y0 y1 y2 y3) (sealringref05_Scan.j1 (k + 1) y0 y1 y2 y3)) ∧ (∀ y0 y1 y2, LeO (sealringref05_Scan.j2 k y0 y1 y2) (sealringref05_Scan.j2 (k + 1) y0 y1 y2)) ∧ (∀ y0 y1 y2 y3 y4, LeO (sealringref05_Scan.j3 k y0 y1 y2 y3 y4) (sealringref05_Scan.j3 (k + 1) y0 y1 y2 y3 y4)) ∧ (∀ y0 y1 y2 y3 y4, LeO (sealringref05_Scan.j4 k y0 y1 y2 y3 y4) (sealringref05_Scan.j4 (k + 1) y0 y1 y2 y3 y4))
  | 0 => ⟨fun _ _ _ r h => by simp [sealringref05_Scan.j0] at h, fun _ _ _ _ r h => by simp [sealringref05_Scan.j1] at h, fun _ _ _ r h => by simp [sealringref05_Scan.j2] at h, fun _ _ _ _ _ r h => by simp [sealringref05_Scan.j3] at h, fun _ _ _ _ _ r h => by simp [sealringref05_Scan.j4] at h⟩
  | k + 1 => by
    obtain ⟨ih0, ih1, ih2, ih3, ih4⟩ := sealringref05_Scan.mono_l k
    refine ⟨?_, ?_, ?_, ?_, ?_⟩
    · intro y0 y1 y2
      unfold sealringref05_Scan.j0
      repeat' first
      | (with_reducible exact ih0 _ _ _)
      | (with_reducible exact ih1 _ _ _ _)
      | (with_reducible exact ih2 _ _ _)
      | (with_reducible exact ih3 _ _ _ _ _)
      | (with_reducible exact ih4 _ _ _ _ _)
      | (with_reducible exact sealringref05_digits.mono _ _ _)
      | (with_reducible exact sealringref05_small.mono _ _)
      | (with_reducible exact LeO.refl _)
      | (with_reducible exact LeO.none _)
      | (with_reducible refine LeO.ite ?_ ?_)
      | (with_reducible refine LeO.bind ?_ (fun _ => ?_))
      | exact ih0 _ _ _
      | exact ih1 _ _ _ _
      | exact ih2 _ _ _
      | exact ih3 _ _ _ _ _
      | exact ih4 _ _ _ _ _
      | exact sealringref05_digits.mono _ _ _
      | exact sealringref05_small.mono _ _
      | exact LeO.none _
      | refine LeO.ite ?_ ?_
      | refine LeO.bind ?_ (fun _ => ?_)
    · intro y0 y1 y2 y3
      unfold sealringref05_Scan.j1
      repeat' first
      | (with_reducible exact ih0 _ _ _)
      | (with_reducible exact ih1 _ _ _ _)
      | (with_reducible exact ih2 _ _ _)
      | (with_reducible exact ih3 _ _ _ _ _)
      | (with_reducible exact ih4 _ _ _ _ _)
      | (with_reducible exact sealringref05_digits.mono _ _ _)
      | (with_reducible exact sealringref05_small.mono _ _)
      | (with_reducible exact LeO.refl _)
      | (with_reducible exact LeO.none _)
      | (with_reducible refine LeO.ite ?_ ?_)
      | (with_reducible refine LeO.bind ?_ (fun _ => ?_))
      | exact ih0 _ _ _
      | exact ih1 _ _ _ _
      | exact ih2 _ _ _
      | exact ih3 _ _ _ _ _
      | exact ih4 _ _ _ _ _
      | exact sealringref05_digits.mono _ _ _
      | exact sealringref05_small.mono _ _
      | exact LeO.none _
      | refine LeO.ite ?_ ?_
      | refine LeO.bind ?_ (fun _ => ?_)
    · intro y0 y1 y2
      unfold sealringref05_Scan.j2
      repeat' first
      | (with_reducible exact ih0 _ _ _)
      | (with_reducible exact ih1 _ _ _ _)
      | (with_reducible exact ih2 _ _ _)
      | (with_reducible exact ih3 _ _ _ _ _)
      | (with_reducible exact ih4 _ _ _ _ _)
      | (with_reducible exact sealringref05_digits.mono _ _ _)
      | (with_reducible exact sealringref05_small.mono _ _)
      | (with_reducible exact LeO.refl _)
      | (with_reducible exact LeO.none _)
      | (with_reducible refine LeO.ite ?_ ?_)
      | (with_reducible refine LeO.bind ?_ (fun _ => ?_))
      | exact ih0 _ _ _
      | exact ih1 _ _ _ _
      | exact ih2 _ _ _
      | exact ih3 _ _ _ _ _
      | exact ih4 _ _ _ _ _
      | exact sealringref05_digits.mono _ _ _
      | exact sealringref05_small.mono _ _
      | exact LeO.none _
      | refine LeO.ite ?_ ?_
      | refine LeO.bind ?_ (fun _ => ?_)
    · intro y0 y1 y2 y3 y4
      unfold sealringref05_Scan.j3
      repeat' first
      | (with_reducible exact ih0 _ _ _)
      | (with_reducible exact ih1 _ _ _ _)
      | (with_reducible exact ih2 _ _ _)
      | (with_reducible exact ih3 _ _ _ _ _)
      | (with_reducible exact ih4 _ _ _ _ _)
      | (with_reducible exact sealringref05_digits.mono _ _ _)
      | (with_reducible exact sealringref05_small.mono _ _)
      | (with_reducible exact LeO.refl _)
      | (with_reducible exact LeO.none _)
      | (with_reducible refine LeO.ite ?_ ?_)
      | (with_reducible refine LeO.bind ?_ (fun _ => ?_))
      | exact ih0 _ _ _
      | exact ih1 _ _ _ _
      | exact ih2 _ _ _
      | exact ih3 _ _ _ _ _
      | exact ih4 _ _ _ _ _
      | exact sealringref05_digits.mono _ _ _
      | exact sealringref05_small.mono _ _
      | exact LeO.none _
      | refine LeO.ite ?_ ?_
      | refine LeO.bind ?_ (fun _ => ?_)
    · intro y0 y1 y2 y3 y4
      unfold sealringref05_Scan.j4
      repeat' first
      | (with_reducible exact ih0 _ _ _)
      | (with_reducible exact ih1 _ _ _ _)
      | (with_reducible exact ih2 _ _ _)
      | (with_reducible exact ih3 _ _ _ _ _)
      | (with_reducible exact ih4 _ _ _ _ _)
      | (with_reducible exact sealringref05_digits.mono _ _ _)
      | (with_reducible exact sealringref05_small.mono _ _)
      | (with_reducible exact LeO.refl _)
      | (with_reducible exact LeO.none _)
      | (with_reducible refine LeO.ite ?_ ?_)
      | (with_reducible refine LeO.bind ?_ (fun _ => ?_))
      | exact ih0 _ _ _
      | exact ih1 _ _ _ _
      | exact ih2 _ _ _
      | exact ih3 _ _ _ _ _
      | exact ih4 _ _ _ _ _
      | exact sealringref05_digits.mono _ _ _
      | exact sealringref05_small.mono _ _
      | exact LeO.none _
      | refine LeO.ite ?_ ?_
      | refine LeO.bind ?_ (fun _ => ?_)
theorem sealringref05_Scan.mono : ∀ a0 a1 k, LeO (sealringref05_Scan.f k a0 a1) (sealringref05_Scan.f (k + 1) a0 a1) := by
  intro a0 a1 k
  obtain ⟨ih0, ih1, ih2, ih3, ih4⟩ := sealringref05_Scan.mono_l k
  unfold sealringref05_Scan.f
  repeat' first
      | (with_reducible exact ih0 _ _ _)
      | (with_reducible exact ih1 _ _ _ _)
      | (with_reducible exact ih2 _ _ _)
      | (with_reducible exact ih3 _ _ _ _ _)
      | (with_reducible exact ih4 _ _ _ _ _)
      | (with_reducible exact sealringref05_digits.mono _ _ _)
      | (with_reducible exact sealringref05_small.mono _ _)
      | (with_reducible exact LeO.refl _)
      | (with_reducible exact LeO.none _)
      | (with_reducible refine LeO.ite ?_ ?_)
      | (with_reducible refine LeO.bind ?_ (fun _ => ?_))
      | exact ih0 _ _ _
      | exact ih1 _ _ _ _
      | exact ih2 _ _ _
      | exact ih3 _ _ _ _ _
      | exact ih4 _ _ _ _ _
      | exact sealringref05_digits.mono _ _ _
      | exact sealringref05_small.mono _ _
      | exact LeO.none _
      | refine LeO.ite ?_ ?_
      | refine LeO.bind ?_ (fun _ => ?_)
set_option maxHeartbeats 8000000 in
set_option maxRecDepth 100000 in
theorem sealringref05_Scan.calls (k : Nat) (a0 : ByteArray) (a1 : Int) (r1 : Int) (r2 : Int) (r3 : Int) (w : World) (h : sealringref05_Scan.f k a0 a1 = some (r1, r2, r3)) :
    Calls Try.prog 23 #[.string a0, .int .i64 a1] w fun e w' => e = .returned (.tuple #[.int .i64 r1, .int .i64 r2, .int .i64 r3]) ∧ Drawn0 w w' := by
  have H : (if a1 < 0 then (sealringref05_Scan.j0 k a0 a1 true) else (sealringref05_Scan.j0 k a0 a1 (decide (a1 > (a0.size : Int))))) = some (r1, r2, r3) := h
  clear h
  have HC3 := Aside0.mk H
  clear H
  go_enter Try.func23, Try.ntmps23
  go_upto_region 1 with (fail)
  go_cut [20] (fun v20 wc => ∃ (kq : Nat) (x20_2 : Bool), v20 = .bool x20_2 ∧ Aside0 (sealringref05_Scan.j0 kq a0 a1 x20_2 = some (r1, r2, r3)) ∧ Aside0 (kq ≤ k) ∧ Drawn0 w wc)
  case first =>
    have H := HC3.out
    clear HC3
    by_cases c4 : a1 < 0
    · rw [if_pos c4] at H
      have c4b0 : decide (a1 < 0) = true := decide_eq_true c4
      clear c4
      (first | rw [c4b0] | (simp only [i64_w, i32_w]; rw [c4b0]) | skip)
      have H' := Aside0.mk H
      clear H
      go_wp2
      go_meet
      case rel => exact ⟨_, (true), (by first | rfl | (simp; done) | (simp [*]; done) | (simp [wrap64]; done)), (by first | with_reducible exact H' | exact H' | (subst_vars; exact H')), ⟨by first | omega | exact Nat.le_refl _⟩, by repeat (first | exact Drawn0.refl _ | apply Drawn0.step)⟩
    · rw [if_neg c4] at H
      have c4b0 : decide (a1 < 0) = false := decide_eq_false c4
      clear c4
      (first | rw [c4b0] | (simp only [i64_w, i32_w]; rw [c4b0]) | skip)
      have H' := Aside0.mk H
      clear H
      go_wp2
      go_meet
      case rel => exact ⟨_, (decide (a1 > (a0.size : Int))), (by first | rfl | (simp; done) | (simp [*]; done) | (simp [wrap64]; done)), (by first | with_reducible exact H' | exact H' | (subst_vars; exact H')), ⟨by first | omega | exact Nat.le_refl _⟩, by repeat (first | exact Drawn0.refl _ | apply Drawn0.step)⟩
  case rest =>
    clear HC3
    try clear c2
    try clear p2
    try clear c4
    try clear c4b0
    obtain ⟨kq, x20_2, rfl, HA, HJ2, ⟨mc2, rfl⟩⟩ := hcut
    cases kq with
    | zero => exact absurd HA.out (by simp [sealringref05_Scan.j0])
    | succ kj2 =>
      have H := HA.out
      clear HA
      simp only [sealringref05_Scan.j0] at H
      by_cases c5 : x20_2 = true
      · subst c5
        have H1 : (some (0, 0, 1)) = some (r1, r2, r3) := by rw [if_pos rfl] at H; exact H
        clear H
        have H := H1
        clear H1
        simp only [Option.some.injEq, Prod.mk.injEq] at H
        obtain ⟨rfl, rfl, rfl⟩ := H
        go_wp2
        go_ret3
        exact ⟨by first | rfl | (simp; done) | (simp [*]; done), by repeat (first | exact Drawn0.refl _ | apply Drawn0.step)⟩
      · replace c5 := Bool.eq_false_iff.mpr c5
        subst c5
        have H1 : (if a1 < (a0.size : Int) then (if 0 ≤ a1 then (sealringref05_Scan.j1 kj2 a0 a1 0 ((bt a0 a1) == 45)) else (none)) else (sealringref05_Scan.j1 kj2 a0 a1 0 false)) = some (r1, r2, r3) := by rw [if_neg (show ¬ (false = true) by decide)] at H; exact H
        clear H
        have H := H1
        clear H1
        have HC6 := Aside0.mk H
        clear H
        go_upto_region 4 with (fail)
        go_cut [30] (fun v30 wc => ∃ (kq : Nat) (x30_5 : Bool), v30 = .bool x30_5 ∧ Aside0 (sealringref05_Scan.j1 kq a0 a1 0 x30_5 = some (r1, r2, r3)) ∧ Aside0 (kq ≤ kj2) ∧ Drawn0 w wc)
        case first =>
          have H := HC6.out
          clear HC6
          by_cases c7 : a1 < (a0.size : Int)
          · rw [if_pos c7] at H
            have c7b0 : decide (a1 < (a0.size : Int)) = true := decide_eq_true c7
            clear c7
            (first | rw [c7b0] | (simp only [i64_w, i32_w]; rw [c7b0]) | skip)
            by_cases c8 : 0 ≤ a1
            · rw [if_pos c8] at H
              have c8b0 : decide (0 ≤ a1) = true := decide_eq_true c8
              clear c8
              have H' := Aside0.mk H
              clear H
              have p9 : 0 ≤ (a1 : Int) := of_decide_eq_true (by first | (with_reducible assumption) | assumption)
              have q9 : a1 < (a0.size : Int) := of_decide_eq_true (by first | (with_reducible assumption) | assumption)
              have hx9 := bt_at a0 a1
              replace p9 := eq_true p9
              replace q9 := eq_true q9
              go_wp2
              go_meet
              case rel => exact ⟨_, (((bt a0 a1) == 45)), (by first | rfl | (simp; done) | (simp [*]; done) | (simp [wrap64]; done)), (by first | with_reducible exact H' | exact H' | (subst_vars; exact H')), ⟨by have := HJ2.out; first | omega | exact Nat.le_refl _⟩, by repeat (first | exact Drawn0.refl _ | apply Drawn0.step)⟩
            · rw [if_neg c8] at H
              exact absurd H (by simp)
          · rw [if_neg c7] at H
            have c7b0 : decide (a1 < (a0.size : Int)) = false := decide_eq_false c7
            clear c7
            (first | rw [c7b0] | (simp only [i64_w, i32_w]; rw [c7b0]) | skip)
            have H' := Aside0.mk H
            clear H
            go_wp2
            go_meet
            case rel => exact ⟨_, (false), (by first | rfl | (simp; done) | (simp [*]; done) | (simp [wrap64]; done)), (by first | with_reducible exact H' | exact H' | (subst_vars; exact H')), ⟨by have := HJ2.out; first | omega | exact Nat.le_refl _⟩, by repeat (first | exact Drawn0.refl _ | apply Drawn0.step)⟩
        case rest =>
          clear HC6
          try clear c2
          try clear p2
          try clear c4
          try clear c4b0
          try clear c5
          try clear c7
          try clear c7b0
          try clear c8
          try clear c8b0
          try clear p9
          try clear q9
          try clear hx9
          try clear p2
          try clear p9
          try clear q9
          obtain ⟨kq, x30_5, rfl, HA, HJ5, ⟨mc5, rfl⟩⟩ := hcut
          cases kq with
          | zero => exact absurd HA.out (by simp [sealringref05_Scan.j1])
          | succ kj5 =>
            have H := HA.out
            clear HA
            simp only [sealringref05_Scan.j1] at H
            have HC10 := Aside0.mk H
            clear H
            go_upto_if 30 with (fail)
            go_cut [7] (fun v7 wc => ∃ (kq : Nat) (x7_9 : Int), v7 = .int .i64 x7_9 ∧ Aside0 (sealringref05_Scan.j2 kq a0 a1 x7_9 = some (r1, r2, r3)) ∧ Aside0 (kq ≤ kj5) ∧ Drawn0 w wc)
            case first =>
              have H := HC10.out
              clear HC10
              by_cases c11 : x30_5 = true
              · subst c11
                have H1 : (sealringref05_Scan.j2 kj5 a0 a1 1) = some (r1, r2, r3) := by rw [if_pos rfl] at H; exact H
                clear H
                have H := H1
                clear H1
                have H' := Aside0.mk H
                clear H
                go_wp2
                go_meet
                case rel => exact ⟨_, (1), (by first | rfl | (simp; done) | (simp [*]; done) | (simp [wrap64]; done)), (by first | with_reducible exact H' | exact H' | (subst_vars; exact H')), ⟨by have := HJ2.out; have := HJ5.out; first | omega | exact Nat.le_refl _⟩, by repeat (first | exact Drawn0.refl _ | apply Drawn0.step)⟩
              · replace c11 := Bool.eq_false_iff.mpr c11
                subst c11
                have H1 : (sealringref05_Scan.j2 kj5 a0 a1 0) = some (r1, r2, r3) := by rw [if_neg (show ¬ (false = true) by decide)] at H; exact H
                clear H
                have H := H1
                clear H1
                have H' := Aside0.mk H
                clear H
                go_wp2
                go_meet
                case rel => exact ⟨_, (0), (by first | rfl | (simp; done) | (simp [*]; done) | (simp [wrap64]; done)), (by first | with_reducible exact H' | exact H' | (subst_vars; exact H')), ⟨by have := HJ2.out; have := HJ5.out; first | omega | exact Nat.le_refl _⟩, by repeat (first | exact Drawn0.refl _ | apply Drawn0.step)⟩
            case rest =>
              clear HC10
              try clear c1
              try clear c2
              try clear p2
              try clear c4
              try clear c4b0
              try clear c5
              try clear c7
              try clear c7b0
              try clear c8
              try clear c8b0
              try clear p9
              try clear q9
              try clear hx9
              try clear c11
              try clear p2
              try clear p9
              try clear q9
              obtain ⟨kq, x7_9, rfl, HA, HJ9, ⟨mc9, rfl⟩⟩ := hcut
              cases kq with
              | zero => exact absurd HA.out (by simp [sealringref05_Scan.j2])
              | succ kj9 =>
                have H := HA.out
                clear HA
                simp only [sealringref05_Scan.j2] at H
                by_cases c12 : (wrap64 (a1 + x7_9)) = (a0.size : Int)
                · rw [if_pos c12] at H
                  have c12b0 : ((wrap64 (a1 + x7_9)) == (a0.size : Int)) = true := beq_iff_eq.mpr c12
                  have c12b1 : ((wrap64 (a1 + x7_9)) != (a0.size : Int)) = false := bne_eq_false_iff_eq.mpr c12
                  clear c12
                  simp only [Option.some.injEq, Prod.mk.injEq] at H
                  obtain ⟨rfl, rfl, rfl⟩ := H
                  go_wp2
                  go_ret3
                  exact ⟨by first | rfl | (simp; done) | (simp [*]; done), by repeat (first | exact Drawn0.refl _ | apply Drawn0.step)⟩
                · rw [if_neg c12] at H
                  have c12b0 : ((wrap64 (a1 + x7_9)) == (a0.size : Int)) = false := beq_eq_false_iff_ne.mpr c12
                  have c12b1 : ((wrap64 (a1 + x7_9)) != (a0.size : Int)) = true := bne_iff_ne.mpr c12
                  replace H := Option.bind_eq_some_iff.mp H
                  obtain ⟨t160, A130, H⟩ := H
                  replace H : (if t160 = 0 then (some (0, 0, 6)) else (if 0 ≤ (wrap64 (a1 + x7_9)) then (if (wrap64 (a1 + x7_9)) < (a0.size : Int) then (if (bt a0 (wrap64 (a1 + x7_9))) = 48 then (if t160 > 1 then (sealringref05_Scan.j3 kj9 a0 x7_9 (wrap64 (a1 + x7_9)) (wrap64 ((wrap64 (a1 + x7_9)) + t160)) true) else (sealringref05_Scan.j3 kj9 a0 x7_9 (wrap64 (a1 + x7_9)) (wrap64 ((wrap64 (a1 + x7_9)) + t160)) (x7_9 == 1))) else (sealringref05_Scan.j3 kj9 a0 x7_9 (wrap64 (a1 + x7_9)) (wrap64 ((wrap64 (a1 + x7_9)) + t160)) false)) else (none)) else (none))) = some (r1, r2, r3) := H
                  have A13 := Aside0.mk A130
                  clear A130
                  by_cases c14 : t160 = 0
                  · rw [if_pos c14] at H
                    have c14b0 : (t160 == 0) = true := beq_iff_eq.mpr c14
                    have c14b1 : (t160 != 0) = false := bne_eq_false_iff_eq.mpr c14
                    clear c14
                    simp only [Option.some.injEq, Prod.mk.injEq] at H
                    obtain ⟨rfl, rfl, rfl⟩ := H
                    go_wp2_with (first | ((with_reducible refine gate_callee (f := 32) rfl ?_); refine goesL_ (some 40) rfl rfl Try.func32 (by kernel_rfl) rfl #[.string a0, .int .i64 (wrap64 (a1 + x7_9))] rfl (by (try simp only [List.map_toArray, List.map_cons, List.map_nil]); first | done | rfl | (simp only [List.length_drop, List.length_take]; rfl)) ?_; (with_reducible refine (sealringref05_digits.calls kj9 a0 (wrap64 (a1 + x7_9)) t160 _ A13.out).mono ?_); rintro e w' ⟨rfl, ⟨nd, rfl⟩⟩; refine ⟨_, rfl, ?_⟩))
                    go_ret3
                    exact ⟨by first | rfl | (simp; done) | (simp [*]; done), by repeat (first | exact Drawn0.refl _ | apply Drawn0.step)⟩
                  · rw [if_neg c14] at H
                    have c14b0 : (t160 == 0) = false := beq_eq_false_iff_ne.mpr c14
                    have c14b1 : (t160 != 0) = true := bne_iff_ne.mpr c14
                    have HC15 := Aside0.mk H
                    clear H
                    go_upto_region 13 with (first | ((with_reducible refine gate_callee (f := 32) rfl ?_); refine goesL_ (some 40) rfl rfl Try.func32 (by kernel_rfl) rfl #[.string a0, .int .i64 (wrap64 (a1 + x7_9))] rfl (by (try simp only [List.map_toArray, List.map_cons, List.map_nil]); first | done | rfl | (simp only [List.length_drop, List.length_take]; rfl)) ?_; (with_reducible refine (sealringref05_digits.calls kj9 a0 (wrap64 (a1 + x7_9)) t160 _ A13.out).mono ?_); rintro e w' ⟨rfl, ⟨nd, rfl⟩⟩; refine ⟨_, rfl, ?_⟩))
                    (try simp only [Act.put, List.setIfInBounds_toArray, List.set_cons_zero, List.set_cons_succ])
                    go_cut [57] (fun v57 wc => ∃ (kq : Nat) (x57_14 : Bool), v57 = .bool x57_14 ∧ Aside0 (sealringref05_Scan.j3 kq a0 x7_9 (wrap64 (a1 + x7_9)) (wrap64 ((wrap64 (a1 + x7_9)) + t160)) x57_14 = some (r1, r2, r3)) ∧ Aside0 (kq ≤ kj9) ∧ Drawn0 w wc)
                    case first =>
                      have H := HC15.out
                      clear HC15
                      obtain ⟨ji16, hji16⟩ : ∃ j_ : Int, (wrap64 (a1 + x7_9)) = j_ := ⟨_, rfl⟩
                      replace H : (if 0 ≤ (ji16) then (if (ji16) < (a0.size : Int) then (if (bt a0 (ji16)) = 48 then (if t160 > 1 then (sealringref05_Scan.j3 kj9 a0 x7_9 ji16 (wrap64 ((ji16) + t160)) true) else (sealringref05_Scan.j3 kj9 a0 x7_9 ji16 (wrap64 ((ji16) + t160)) (x7_9 == 1))) else (sealringref05_Scan.j3 kj9 a0 x7_9 ji16 (wrap64 ((ji16) + t160)) false)) else (none)) else (none)) = some (r1, r2, r3) := by first | (rw [hji16] at H; exact H) | (simp only [hji16] at H ⊢; exact H)
                      (try rw [hji16] at c12b0)
                      (try rw [hji16] at c12b1)
                      have hji16w : (IntKind.i64.wrap (a1 + x7_9)) = ji16 := (i64_w _).trans hji16
                      by_cases c17 : 0 ≤ (ji16)
                      · rw [if_pos c17] at H
                        have c17b0 : decide (0 ≤ (ji16)) = true := decide_eq_true c17
                        clear c17
                        (first | rw [c17b0] | (simp only [i64_w, i32_w]; rw [c17b0]) | skip)
                        by_cases c18 : (ji16) < (a0.size : Int)
                        · rw [if_pos c18] at H
                          have c18b0 : decide ((ji16) < (a0.size : Int)) = true := decide_eq_true c18
                          clear c18
                          by_cases c20 : (bt a0 (ji16)) = 48
                          · rw [if_pos c20] at H
                            have c20b0 : ((bt a0 (ji16)) == 48) = true := beq_iff_eq.mpr c20
                            have c20b1 : ((bt a0 (ji16)) != 48) = false := bne_eq_false_iff_eq.mpr c20
                            clear c20
                            by_cases c21 : t160 > 1
                            · rw [if_pos c21] at H
                              have c21b0 : decide (1 < t160) = true := decide_eq_true c21
                              clear c21
                              have H' := Aside0.mk H
                              clear H
                              have p19 : 0 ≤ ((ji16) : Int) := of_decide_eq_true (by first | (with_reducible assumption) | assumption)
                              have q19 : (ji16) < (a0.size : Int) := of_decide_eq_true (by first | (with_reducible assumption) | assumption)
                              have hx19 := bt_at a0 (ji16)
                              replace p19 := eq_true p19
                              replace q19 := eq_true q19
                              go_wp2
                              go_meet
                              case rel => exact ⟨_, (true), (by first | rfl | (simp; done) | (simp [*]; done) | (simp [wrap64]; done)), (by first | with_reducible exact H' | exact H' | (subst_vars; exact H')), ⟨by have := HJ2.out; have := HJ5.out; have := HJ9.out; first | omega | exact Nat.le_refl _⟩, by repeat (first | exact Drawn0.refl _ | apply Drawn0.step)⟩
                            · rw [if_neg c21] at H
                              have c21b0 : decide (1 < t160) = false := decide_eq_false c21
                              clear c21
                              have H' := Aside0.mk H
                              clear H
                              have p19 : 0 ≤ ((ji16) : Int) := of_decide_eq_true (by first | (with_reducible assumption) | assumption)
                              have q19 : (ji16) < (a0.size : Int) := of_decide_eq_true (by first | (with_reducible assumption) | assumption)
                              have hx19 := bt_at a0 (ji16)
                              replace p19 := eq_true p19
                              replace q19 := eq_true q19
                              go_wp2
                              go_meet
                              case rel => exact ⟨_, ((x7_9 == 1)), (by first | rfl | (simp; done) | (simp [*]; done) | (simp [wrap64]; done)), (by first | with_reducible exact H' | exact H' | (subst_vars; exact H')), ⟨by have := HJ2.out; have := HJ5.out; have := HJ9.out; first | omega | exact Nat.le_refl _⟩, by repeat (first | exact Drawn0.refl _ | apply Drawn0.step)⟩
                          · rw [if_neg c20] at H
                            have c20b0 : ((bt a0 (ji16)) == 48) = false := beq_eq_false_iff_ne.mpr c20
                            have c20b1 : ((bt a0 (ji16)) != 48) = true := bne_iff_ne.mpr c20
                            have H' := Aside0.mk H
                            clear H
                            have p19 : 0 ≤ ((ji16) : Int) := of_decide_eq_true (by first | (with_reducible assumption) | assumption)
                            have q19 : (ji16) < (a0.size : Int) := of_decide_eq_true (by first | (with_reducible assumption) | assumption)
                            have hx19 := bt_at a0 (ji16)
                            replace p19 := eq_true p19
                            replace q19 := eq_true q19
                            go_wp2
                            go_meet
                            case rel => exact ⟨_, (false), (by first | rfl | (simp; done) | (simp [*]; done) | (simp [wrap64]; done)), (by first | with_reducible exact H' | exact H' | (subst_vars; exact H')), ⟨by have := HJ2.out; have := HJ5.out; have := HJ9.out; first | omega | exact Nat.le_refl _⟩, by repeat (first | exact Drawn0.refl _ | apply Drawn0.step)⟩
                        · rw [if_neg c18] at H
                          exact absurd H (by simp)
                      · rw [if_neg c17] at H
                        exact absurd H (by simp)
                    case rest =>
                      clear HC15
                      try clear c1
                      try clear p1
                      try clear q1
                      try clear hx1
                      try clear c2
                      try clear p2
                      try clear c3
                      try clear c4
                      try clear c4b0
                      try clear c5
                      try clear p6
                      try clear c7
                      try clear c7b0
                      try clear c8
                      try clear c8b0
                      try clear c9
                      try clear p9
                      try clear q9
                      try clear hx9
                      try clear c11
                      try clear c12
                      try clear c12b0
                      try clear c12b1
                      try clear c14
                      try clear c14b0
                      try clear c14b1
                      try clear c17
                      try clear c17b0
                      try clear c18
                      try clear c18b0
                      try clear p19
                      try clear q19
                      try clear hx19
                      try clear c20
                      try clear c20b0
                      try clear c20b1
                      try clear c21
                      try clear c21b0
                      try clear p19
                      try clear p2
                      try clear p9
                      try clear q19
                      try clear q9
                      obtain ⟨kq, x57_14, rfl, HA, HJ14, ⟨mc14, rfl⟩⟩ := hcut
                      cases kq with
                      | zero => exact absurd HA.out (by simp [sealringref05_Scan.j3])
                      | succ kj14 =>
                        have H := HA.out
                        clear HA
                        simp only [sealringref05_Scan.j3] at H
                        by_cases c22 : x57_14 = true
                        · subst c22
                          have H1 : (some (0, 0, 12)) = some (r1, r2, r3) := by rw [if_pos rfl] at H; exact H
                          clear H
                          have H := H1
                          clear H1
                          simp only [Option.some.injEq, Prod.mk.injEq] at H
                          obtain ⟨rfl, rfl, rfl⟩ := H
                          go_wp2
                          go_ret3
                          exact ⟨by first | rfl | (simp; done) | (simp [*]; done), by repeat (first | exact Drawn0.refl _ | apply Drawn0.step)⟩
                        · replace c22 := Bool.eq_false_iff.mpr c22
                          subst c22
                          have H1 : (if (wrap64 ((wrap64 (a1 + x7_9)) + t160)) < (a0.size : Int) then (if 0 ≤ (wrap64 ((wrap64 (a1 + x7_9)) + t160)) then (if (bt a0 (wrap64 ((wrap64 (a1 + x7_9)) + t160))) = 46 then (sealringref05_Scan.j4 kj14 a0 x7_9 (wrap64 (a1 + x7_9)) (wrap64 ((wrap64 (a1 + x7_9)) + t160)) true) else (if (bt a0 (wrap64 ((wrap64 (a1 + x7_9)) + t160))) = 101 then (sealringref05_Scan.j4 kj14 a0 x7_9 (wrap64 (a1 + x7_9)) (wrap64 ((wrap64 (a1 + x7_9)) + t160)) true) else (sealringref05_Scan.j4 kj14 a0 x7_9 (wrap64 (a1 + x7_9)) (wrap64 ((wrap64 (a1 + x7_9)) + t160)) ((bt a0 (wrap64 ((wrap64 (a1 + x7_9)) + t160))) == 69)))) else (none)) else (sealringref05_Scan.j4 kj14 a0 x7_9 (wrap64 (a1 + x7_9)) (wrap64 ((wrap64 (a1 + x7_9)) + t160)) false)) = some (r1, r2, r3) := by rw [if_neg (show ¬ (false = true) by decide)] at H; exact H
                          clear H
                          have H := H1
                          clear H1
                          have HC23 := Aside0.mk H
                          clear H
                          go_upto_region 15 with (fail)
                          go_cut [79] (fun v79 wc => ∃ (kq : Nat) (x79_22 : Bool), v79 = .bool x79_22 ∧ Aside0 (sealringref05_Scan.j4 kq a0 x7_9 (wrap64 (a1 + x7_9)) (wrap64 ((wrap64 (a1 + x7_9)) + t160)) x79_22 = some (r1, r2, r3)) ∧ Aside0 (kq ≤ kj14) ∧ Drawn0 w wc)
                          case first =>
                            have H := HC23.out
                            clear HC23
                            by_cases c24 : (wrap64 ((wrap64 (a1 + x7_9)) + t160)) < (a0.size : Int)
                            · rw [if_pos c24] at H
                              have c24b0 : decide ((wrap64 ((wrap64 (a1 + x7_9)) + t160)) < (a0.size : Int)) = true := decide_eq_true c24
                              clear c24
                              (first | rw [c24b0] | (simp only [i64_w, i32_w]; rw [c24b0]) | skip)
                              obtain ⟨ji25, hji25⟩ : ∃ j_ : Int, (wrap64 ((wrap64 (a1 + x7_9)) + t160)) = j_ := ⟨_, rfl⟩
                              replace H : (if 0 ≤ (ji25) then (if (bt a0 (ji25)) = 46 then (sealringref05_Scan.j4 kj14 a0 x7_9 (wrap64 (a1 + x7_9)) (ji25) true) else (if (bt a0 (ji25)) = 101 then (sealringref05_Scan.j4 kj14 a0 x7_9 (wrap64 (a1 + x7_9)) (ji25) true) else (sealringref05_Scan.j4 kj14 a0 x7_9 (wrap64 (a1 + x7_9)) (ji25) ((bt a0 (ji25)) == 69)))) else (none)) = some (r1, r2, r3) := by first | (rw [hji25] at H; exact H) | (simp only [hji25] at H ⊢; exact H)
                              (try rw [hji25] at c24b0)
                              have hji25w : (IntKind.i64.wrap ((wrap64 (a1 + x7_9)) + t160)) = ji25 := (i64_w _).trans hji25
                              by_cases c26 : 0 ≤ (ji25)
                              · rw [if_pos c26] at H
                                have c26b0 : decide (0 ≤ (ji25)) = true := decide_eq_true c26
                                clear c26
                                by_cases c28 : (bt a0 (ji25)) = 46
                                · rw [if_pos c28] at H
                                  have c28b0 : ((bt a0 (ji25)) == 46) = true := beq_iff_eq.mpr c28
                                  have c28b1 : ((bt a0 (ji25)) != 46) = false := bne_eq_false_iff_eq.mpr c28
                                  clear c28
                                  have H' := Aside0.mk H
                                  clear H
                                  have p27 : 0 ≤ ((ji25) : Int) := of_decide_eq_true (by first | (with_reducible assumption) | assumption)
                                  have q27 : (ji25) < (a0.size : Int) := of_decide_eq_true (by first | (with_reducible assumption) | assumption)
                                  have hx27 := bt_at a0 (ji25)
                                  replace p27 := eq_true p27
                                  replace q27 := eq_true q27
                                  go_wp2
                                  go_meet
                                  case rel => exact ⟨_, (true), (by first | rfl | (simp; done) | (simp [*]; done) | (simp [wrap64]; done)), (by first | with_reducible exact H' | exact H' | (subst_vars; exact H')), ⟨by have := HJ2.out; have := HJ5.out; have := HJ9.out; have := HJ14.out; first | omega | exact Nat.le_refl _⟩, by repeat (first | exact Drawn0.refl _ | apply Drawn0.step)⟩
                                · rw [if_neg c28] at H
                                  have c28b0 : ((bt a0 (ji25)) == 46) = false := beq_eq_false_iff_ne.mpr c28
                                  have c28b1 : ((bt a0 (ji25)) != 46) = true := bne_iff_ne.mpr c28
                                  by_cases c30 : (bt a0 (ji25)) = 101
                                  · rw [if_pos c30] at H
                                    have c30b0 : ((bt a0 (ji25)) == 101) = true := beq_iff_eq.mpr c30
                                    have c30b1 : ((bt a0 (ji25)) != 101) = false := bne_eq_false_iff_eq.mpr c30
                                    clear c30
                                    have H' := Aside0.mk H
                                    clear H
                                    have p27 : 0 ≤ ((ji25) : Int) := of_decide_eq_true (by first | (with_reducible assumption) | assumption)
                                    have q27 : (ji25) < (a0.size : Int) := of_decide_eq_true (by first | (with_reducible assumption) | assumption)
                                    have hx27 := bt_at a0 (ji25)
                                    replace p27 := eq_true p27
                                    replace q27 := eq_true q27
                                    have p29 : 0 ≤ ((ji25) : Int) := of_decide_eq_true (by first | (with_reducible assumption) | assumption)
                                    have q29 : (ji25) < (a0.size : Int) := of_decide_eq_true (by first | (with_reducible assumption) | assumption)
                                    have hx29 := bt_at a0 (ji25)
                                    replace p29 := eq_true p29
                                    replace q29 := eq_true q29
                                    go_wp2
                                    go_meet
                                    case rel => exact ⟨_, (true), (by first | rfl | (simp; done) | (simp [*]; done) | (simp [wrap64]; done)), (by first | with_reducible exact H' | exact H' | (subst_vars; exact H')), ⟨by have := HJ2.out; have := HJ5.out; have := HJ9.out; have := HJ14.out; first | omega | exact Nat.le_refl _⟩, by repeat (first | exact Drawn0.refl _ | apply Drawn0.step)⟩
                                  · rw [if_neg c30] at H
                                    have c30b0 : ((bt a0 (ji25)) == 101) = false := beq_eq_false_iff_ne.mpr c30
                                    have c30b1 : ((bt a0 (ji25)) != 101) = true := bne_iff_ne.mpr c30
                                    have H' := Aside0.mk H
                                    clear H
                                    have p27 : 0 ≤ ((ji25) : Int) := of_decide_eq_true (by first | (with_reducible assumption) | assumption)
                                    have q27 : (ji25) < (a0.size : Int) := of_decide_eq_true (by first | (with_reducible assumption) | assumption)
                                    have hx27 := bt_at a0 (ji25)
                                    replace p27 := eq_true p27
                                    replace q27 := eq_true q27
                                    have p29 : 0 ≤ ((ji25) : Int) := of_decide_eq_true (by first | (with_reducible assumption) | assumption)
                                    have q29 : (ji25) < (a0.size : Int) := of_decide_eq_true (by first | (with_reducible assumption) | assumption)
                                    have hx29 := bt_at a0 (ji25)
                                    replace p29 := eq_true p29
                                    replace q29 := eq_true q29
                                    have p31 : 0 ≤ ((ji25) : Int) := of_decide_eq_true (by first | (with_reducible assumption) | assumption)
                                    have q31 : (ji25) < (a0.size : Int) := of_decide_eq_true (by first | (with_reducible assumption) | assumption)
                                    have hx31 := bt_at a0 (ji25)
                                    replace p31 := eq_true p31
                                    replace q31 := eq_true q31
                                    go_wp2
                                    go_meet
                                    case rel => exact ⟨_, (((bt a0 (ji25)) == 69)), (by first | rfl | (simp; done) | (simp only [← hji25] <;> (first | rfl | simp)) | (simp [*]; done) | (simp [wrap64]; done)), (by first | with_reducible exact H' | exact H' | (subst_vars; exact H')), ⟨by have := HJ2.out; have := HJ5.out; have := HJ9.out; have := HJ14.out; first | omega | exact Nat.le_refl _⟩, by repeat (first | exact Drawn0.refl _ | apply Drawn0.step)⟩
                              · rw [if_neg c26] at H
                                exact absurd H (by simp)
                            · rw [if_neg c24] at H
                              have c24b0 : decide ((wrap64 ((wrap64 (a1 + x7_9)) + t160)) < (a0.size : Int)) = false := decide_eq_false c24
                              clear c24
                              (first | rw [c24b0] | (simp only [i64_w, i32_w]; rw [c24b0]) | skip)
                              have H' := Aside0.mk H
                              clear H
                              go_wp2
                              go_meet
                              case rel => exact ⟨_, (false), (by first | rfl | (simp; done) | (simp [*]; done) | (simp [wrap64]; done)), (by first | with_reducible exact H' | exact H' | (subst_vars; exact H')), ⟨by have := HJ2.out; have := HJ5.out; have := HJ9.out; have := HJ14.out; first | omega | exact Nat.le_refl _⟩, by repeat (first | exact Drawn0.refl _ | apply Drawn0.step)⟩
                          case rest =>
                            clear HC23
                            try clear c1
                            try clear p1
                            try clear q1
                            try clear hx1
                            try clear c2
                            try clear p2
                            try clear q2
                            try clear hx2
                            try clear c3
                            try clear p3
                            try clear q3
                            try clear hx3
                            try clear c4
                            try clear c4b0
                            try clear c5
                            try clear p6
                            try clear c7
                            try clear c7b0
                            try clear c8
                            try clear c8b0
                            try clear c9
                            try clear p9
                            try clear q9
                            try clear hx9
                            try clear c11
                            try clear c12
                            try clear c12b0
                            try clear c12b1
                            try clear c14
                            try clear c14b0
                            try clear c14b1
                            try clear c17
                            try clear c17b0
                            try clear c18
                            try clear c18b0
                            try clear p19
                            try clear q19
                            try clear hx19
                            try clear c20
                            try clear c20b0
                            try clear c20b1
                            try clear c21
                            try clear c21b0
                            try clear c22
                            try clear c23
                            try clear c24
                            try clear c24b0
                            try clear c26
                            try clear c26b0
                            try clear p27
                            try clear q27
                            try clear hx27
                            try clear c28
                            try clear c28b0
                            try clear c28b1
                            try clear p29
                            try clear q29
                            try clear hx29
                            try clear c30
                            try clear c30b0
                            try clear c30b1
                            try clear p31
                            try clear q31
                            try clear hx31
                            try clear p1
                            try clear p19
                            try clear p2
                            try clear p27
                            try clear p29
                            try clear p31
                            try clear p6
                            try clear p9
                            try clear q1
                            try clear q19
                            try clear q27
                            try clear q29
                            try clear q31
                            try clear q9
                            obtain ⟨kq, x79_22, rfl, HA, HJ22, ⟨mc22, rfl⟩⟩ := hcut
                            cases kq with
                            | zero => exact absurd HA.out (by simp [sealringref05_Scan.j4])
                            | succ kj22 =>
                              have H := HA.out
                              clear HA
                              simp only [sealringref05_Scan.j4] at H
                              by_cases c32 : x79_22 = true
                              · subst c32
                                have H1 : (some (0, 0, 12)) = some (r1, r2, r3) := by rw [if_pos rfl] at H; exact H
                                clear H
                                have H := H1
                                clear H1
                                simp only [Option.some.injEq, Prod.mk.injEq] at H
                                obtain ⟨rfl, rfl, rfl⟩ := H
                                go_wp2
                                go_ret3
                                exact ⟨by first | rfl | (simp; done) | (simp [*]; done), by repeat (first | exact Drawn0.refl _ | apply Drawn0.step)⟩
                              · replace c32 := Bool.eq_false_iff.mpr c32
                                subst c32
                                have H1 : (if 0 ≤ (wrap64 (a1 + x7_9)) then (if (wrap64 (a1 + x7_9)) ≤ (wrap64 ((wrap64 (a1 + x7_9)) + t160)) then (if (wrap64 ((wrap64 (a1 + x7_9)) + t160)) ≤ (a0.size : Int) then ((sealringref05_small.f kj22 (a0.extract ((wrap64 (a1 + x7_9)) : Int).toNat ((wrap64 ((wrap64 (a1 + x7_9)) + t160)) : Int).toNat)).bind fun bt161 => (if bt161.2 = true then (if x7_9 = 1 then (some (wrap64 (-bt161.1), (wrap64 ((wrap64 (a1 + x7_9)) + t160)), 0)) else (some (bt161.1, (wrap64 ((wrap64 (a1 + x7_9)) + t160)), 0))) else (some (0, 0, 2)))) else (none)) else (none)) else (none)) = some (r1, r2, r3) := by rw [if_neg (show ¬ (false = true) by decide)] at H; exact H
                                clear H
                                have H := H1
                                clear H1
                                obtain ⟨ji33, hji33⟩ : ∃ j_ : Int, (wrap64 (a1 + x7_9)) = j_ := ⟨_, rfl⟩
                                replace H : (if 0 ≤ (ji33) then (if (ji33) ≤ (wrap64 ((ji33) + t160)) then (if (wrap64 ((ji33) + t160)) ≤ (a0.size : Int) then ((sealringref05_small.f kj22 (a0.extract ((ji33) : Int).toNat ((wrap64 ((ji33) + t160)) : Int).toNat)).bind fun bt161 => (if bt161.2 = true then (if x7_9 = 1 then (some (wrap64 (-bt161.1), (wrap64 ((ji33) + t160)), 0)) else (some (bt161.1, (wrap64 ((ji33) + t160)), 0))) else (some (0, 0, 2)))) else (none)) else (none)) else (none)) = some (r1, r2, r3) := by first | (rw [hji33] at H; exact H) | (simp only [hji33] at H ⊢; exact H)
                                (try rw [hji33] at c12b0)
                                (try rw [hji33] at c12b1)
                                have hji33w : (IntKind.i64.wrap (a1 + x7_9)) = ji33 := (i64_w _).trans hji33
                                by_cases c34 : 0 ≤ (ji33)
                                · rw [if_pos c34] at H
                                  have c34b0 := eq_true c34
                                  have c34b1 : decide (0 ≤ (ji33)) = true := decide_eq_true c34
                                  clear c34
                                  by_cases c35 : (ji33) ≤ (wrap64 ((ji33) + t160))
                                  · rw [if_pos c35] at H
                                    have c35b0 := eq_true c35
                                    have c35b1 : decide ((ji33) ≤ (wrap64 ((ji33) + t160))) = true := decide_eq_true c35
                                    by_cases c36 : (wrap64 ((ji33) + t160)) ≤ (a0.size : Int)
                                    · rw [if_pos c36] at H
                                      have c36b0 := eq_true c36
                                      have c36b1 : decide ((wrap64 ((ji33) + t160)) ≤ (a0.size : Int)) = true := decide_eq_true c36
                                      replace H := Option.bind_eq_some_iff.mp H
                                      obtain ⟨⟨t161, t162⟩, A370, H⟩ := H
                                      replace H : (if t162 = true then (if x7_9 = 1 then (some (wrap64 (-t161), (wrap64 ((ji33) + t160)), 0)) else (some (t161, (wrap64 ((ji33) + t160)), 0))) else (some (0, 0, 2))) = some (r1, r2, r3) := H
                                      have A37 := Aside0.mk A370
                                      clear A370
                                      by_cases c38 : t162 = true
                                      · subst c38
                                        have H1 : (if x7_9 = 1 then (some (wrap64 (-t161), (wrap64 ((ji33) + t160)), 0)) else (some (t161, (wrap64 ((ji33) + t160)), 0))) = some (r1, r2, r3) := by rw [if_pos rfl] at H; exact H
                                        clear H
                                        have H := H1
                                        clear H1
                                        by_cases c39 : x7_9 = 1
                                        · rw [if_pos c39] at H
                                          have c39b0 : (x7_9 == 1) = true := beq_iff_eq.mpr c39
                                          have c39b1 : (x7_9 != 1) = false := bne_eq_false_iff_eq.mpr c39
                                          clear c39
                                          simp only [Option.some.injEq, Prod.mk.injEq] at H
                                          obtain ⟨rfl, rfl, rfl⟩ := H
                                          go_wp2_with (first | ((with_reducible refine gate_callee (f := 33) rfl ?_); refine goesL_ (some 85) rfl rfl Try.func33 (by kernel_rfl) rfl #[.string (a0.extract ((ji33) : Int).toNat ((wrap64 ((ji33) + t160)) : Int).toNat)] rfl (by (try simp only [List.map_toArray, List.map_cons, List.map_nil]); first | done | (simp only [hji33]; rfl) | rfl | (simp only [List.length_drop, List.length_take]; rfl)) ?_; (with_reducible refine (sealringref05_small.calls kj22 (a0.extract ((ji33) : Int).toNat ((wrap64 ((ji33) + t160)) : Int).toNat) t161 true _ A37.out).mono ?_); rintro e w' ⟨rfl, ⟨nd, rfl⟩⟩; refine ⟨_, rfl, ?_⟩))
                                          go_ret3
                                          exact ⟨by first | rfl | (simp; done) | (simp only [← hji33] <;> (first | rfl | simp)) | (simp [*]; done), by repeat (first | exact Drawn0.refl _ | apply Drawn0.step)⟩
                                        · rw [if_neg c39] at H
                                          have c39b0 : (x7_9 == 1) = false := beq_eq_false_iff_ne.mpr c39
                                          have c39b1 : (x7_9 != 1) = true := bne_iff_ne.mpr c39
                                          simp only [Option.some.injEq, Prod.mk.injEq] at H
                                          obtain ⟨rfl, rfl, rfl⟩ := H
                                          go_wp2_with (first | ((with_reducible refine gate_callee (f := 33) rfl ?_); refine goesL_ (some 85) rfl rfl Try.func33 (by kernel_rfl) rfl #[.string (a0.extract ((ji33) : Int).toNat ((wrap64 ((ji33) + t160)) : Int).toNat)] rfl (by (try simp only [List.map_toArray, List.map_cons, List.map_nil]); first | done | (simp only [hji33]; rfl) | rfl | (simp only [List.length_drop, List.length_take]; rfl)) ?_; (with_reducible refine (sealringref05_small.calls kj22 (a0.extract ((ji33) : Int).toNat ((wrap64 ((ji33) + t160)) : Int).toNat) t161 true _ A37.out).mono ?_); rintro e w' ⟨rfl, ⟨nd, rfl⟩⟩; refine ⟨_, rfl, ?_⟩))
                                          go_ret3
                                          exact ⟨by first | rfl | (simp; done) | (simp only [← hji33] <;> (first | rfl | simp)) | (simp [*]; done), by repeat (first | exact Drawn0.refl _ | apply Drawn0.step)⟩
                                      · replace c38 := Bool.eq_false_iff.mpr c38
                                        subst c38
                                        have H1 : (some (0, 0, 2)) = some (r1, r2, r3) := by rw [if_neg (show ¬ (false = true) by decide)] at H; exact H
                                        clear H
                                        have H := H1
                                        clear H1
                                        simp only [Option.some.injEq, Prod.mk.injEq] at H
                                        obtain ⟨rfl, rfl, rfl⟩ := H
                                        go_wp2_with (first | ((with_reducible refine gate_callee (f := 33) rfl ?_); refine goesL_ (some 85) rfl rfl Try.func33 (by kernel_rfl) rfl #[.string (a0.extract ((ji33) : Int).toNat ((wrap64 ((ji33) + t160)) : Int).toNat)] rfl (by (try simp only [List.map_toArray, List.map_cons, List.map_nil]); first | done | (simp only [hji33]; rfl) | rfl | (simp only [List.length_drop, List.length_take]; rfl)) ?_; (with_reducible refine (sealringref05_small.calls kj22 (a0.extract ((ji33) : Int).toNat ((wrap64 ((ji33) + t160)) : Int).toNat) t161 false _ A37.out).mono ?_); rintro e w' ⟨rfl, ⟨nd, rfl⟩⟩; refine ⟨_, rfl, ?_⟩))
                                        go_ret3
                                        exact ⟨by first | rfl | (simp; done) | (simp only [← hji33] <;> (first | rfl | simp)) | (simp [*]; done), by repeat (first | exact Drawn0.refl _ | apply Drawn0.step)⟩
                                    · rw [if_neg c36] at H
                                      exact absurd H (by simp)
                                  · rw [if_neg c35] at H
                                    exact absurd H (by simp)
                                · rw [if_neg c34] at H
                                  exact absurd H (by simp)
end Go.Proofs.Ytjdgjifacdnkgaa.X
end
section
namespace Go.Proofs.Ytjdgjifacdnkgaa.X
open Go.RowKit Go.Proofs.YtjdgjifacdnkgaaW.PrintWords Go.Proofs.YtjdgjifacdnkgaaW.PrintLast Go.Proofs.YtjdgjifacdnkgaaW.PrintMore
attribute [local go_sem] max2_int min2_int max_two min_two max_three min_three max_four min_four
set_option linter.unusedVariables false
set_option linter.unusedSimpArgs false
mutual
def sealringref06_Next.j0 : Nat → ByteArray → Int → Bool → Option (Int × Int × Int × Int × ByteArray × Int)
  | 0, _, _, _ => none
  | k + 1, x0, x1, x21 => if x21 = true then (some (0, 0, 0, 0, (⟨#[]⟩ : ByteArray), 1)) else ((sealringref06_blanks.f k x0 x1).bind fun t164 => (if t164 = (x0.size : Int) then (some (12, t164, t164, 0, (⟨#[]⟩ : ByteArray), 0)) else (sealringref06_Next.l0 k x0 t164 (([(⟨#[123]⟩ : ByteArray), (⟨#[125]⟩ : ByteArray), (⟨#[91]⟩ : ByteArray), (⟨#[93]⟩ : ByteArray), (⟨#[44]⟩ : ByteArray), (⟨#[58]⟩ : ByteArray), (⟨#[116, 114, 117, 101]⟩ : ByteArray), (⟨#[102, 97, 108, 115, 101]⟩ : ByteArray), (⟨#[110, 117, 108, 108]⟩ : ByteArray)] : List ByteArray)) 0)))
def sealringref06_Next.l0 : Nat → ByteArray → Int → List ByteArray → Int → Option (Int × Int × Int × Int × ByteArray × Int)
  | 0, _, _, _, _ => none
  | k + 1, x0, x1, x6, x7 => if x7 < (x6.length : Int) then (if 0 ≤ x7 then ((sealringref06_word.f x0 x1 (rdOf ByteArray.empty x6 x7)).bind fun t169 => (if t169 = true then (some (wrap64 (x7 + 1), x1, wrap64 (x1 + ((rdOf ByteArray.empty x6 x7).size : Int)), 0, (⟨#[]⟩ : ByteArray), 0)) else (sealringref06_Next.l0 k x0 x1 x6 (wrap64 (x7 + 1))))) else (none)) else (if 0 ≤ x1 then (if x1 < (x0.size : Int) then (if (bt x0 x1) = 34 then ((sealringref04_Unquote.f k x0 x1).bind fun bt171 => (if bt171.2.2 = 0 then (some (10, x1, bt171.2.1, 0, bt171.1, 0)) else (some (0, x1, 0, 0, (⟨#[]⟩ : ByteArray), bt171.2.2)))) else (if (bt x0 x1) = 45 then (sealringref06_Next.j2 k x0 x1 true) else (if (bt x0 x1) ≥ 48 then (sealringref06_Next.j2 k x0 x1 (decide ((bt x0 x1) ≤ 57))) else (sealringref06_Next.j2 k x0 x1 false)))) else (none)) else (none))
def sealringref06_Next.j2 : Nat → ByteArray → Int → Bool → Option (Int × Int × Int × Int × ByteArray × Int)
  | 0, _, _, _ => none
  | k + 1, x0, x1, x93 => if x93 = true then ((sealringref05_Scan.f k x0 x1).bind fun bt174 => (if bt174.2.2 = 0 then (some (11, x1, bt174.2.1, bt174.1, (⟨#[]⟩ : ByteArray), 0)) else (some (0, x1, 0, 0, (⟨#[]⟩ : ByteArray), bt174.2.2)))) else (some (0, x1, 0, 0, (⟨#[]⟩ : ByteArray), 6))
end
def sealringref06_Next.f (k : Nat) (a0 : ByteArray) (a1 : Int) : Option (Int × Int × Int × Int × ByteArray × Int) := if a1 < 0 then (sealringref06_Next.j0 k a0 a1 true) else (sealringref06_Next.j0 k a0 a1 (decide (a1 > (a0.size : Int))))
theorem sealringref06_Next.mono_l : ∀ k, (∀ y0 y1 y2, LeO (sealringref06_Next.j0 k y0 y1 y2) (sealringref06_Next.j0 (k + 1) y0 y1 y2)) ∧ (∀ y0 y1 y2 y3, LeO (sealringref06_Next.l0 k y0 y1 y2 y3) (sealringref06_Next.l0 (k + 1) y0 y1 y2 y3)) ∧ (∀ y0 y1 y2, LeO (sealringref06_Next.j2 k y0 y1 y2) (sealringref06_Next.j2 (k + 1) y0 y1 y2))
  | 0 => ⟨fun _ _ _ r h => by simp [sealringref06_Next.j0] at h, fun _ _ _ _ r h => by simp [sealringref06_Next.l0] at h, fun _ _ _ r h => by simp [sealringref06_Next.j2] at h⟩
  | k + 1 => by
    obtain ⟨ih0, ih1, ih2⟩ := sealringref06_Next.mono_l k
    refine ⟨?_, ?_, ?_⟩
    · intro y0 y1 y2
      unfold sealringref06_Next.j0
      repeat' first
      | (with_reducible exact ih0 _ _ _)
      | (with_reducible exact ih1 _ _ _ _)
      | (with_reducible exact ih2 _ _ _)
      | (with_reducible exact sealringref04_Unquote.mono _ _ _)
      | (with_reducible exact sealringref05_Scan.mono _ _ _)
      | (with_reducible exact sealringref06_blanks.mono _ _ _)
      | (with_reducible exact LeO.refl _)
      | (with_reducible exact LeO.none _)
      | (with_reducible refine LeO.ite ?_ ?_)
      | (with_reducible refine LeO.bind ?_ (fun _ => ?_))
      | exact ih0 _ _ _
      | exact ih1 _ _ _ _
      | exact ih2 _ _ _
      | exact sealringref04_Unquote.mono _ _ _
      | exact sealringref05_Scan.mono _ _ _
      | exact sealringref06_blanks.mono _ _ _
      | exact LeO.none _
      | refine LeO.ite ?_ ?_
      | refine LeO.bind ?_ (fun _ => ?_)
    · intro y0 y1 y2 y3
      unfold sealringref06_Next.l0
      repeat' first
      | (with_reducible exact ih0 _ _ _)
      | (with_reducible exact ih1 _ _ _ _)
      | (with_reducible exact ih2 _ _ _)
      | (with_reducible exact sealringref04_Unquote.mono _ _ _)
      | (with_reducible exact sealringref05_Scan.mono _ _ _)
      | (with_reducible exact sealringref06_blanks.mono _ _ _)
      | (with_reducible exact LeO.refl _)
      | (with_reducible exact LeO.none _)
      | (with_reducible refine LeO.ite ?_ ?_)
      | (with_reducible refine LeO.bind ?_ (fun _ => ?_))
      | exact ih0 _ _ _
      | exact ih1 _ _ _ _
      | exact ih2 _ _ _
      | exact sealringref04_Unquote.mono _ _ _
      | exact sealringref05_Scan.mono _ _ _
      | exact sealringref06_blanks.mono _ _ _
      | exact LeO.none _
      | refine LeO.ite ?_ ?_
      | refine LeO.bind ?_ (fun _ => ?_)
    · intro y0 y1 y2
      unfold sealringref06_Next.j2
      repeat' first
      | (with_reducible exact ih0 _ _ _)
      | (with_reducible exact ih1 _ _ _ _)
      | (with_reducible exact ih2 _ _ _)
      | (with_reducible exact sealringref04_Unquote.mono _ _ _)
      | (with_reducible exact sealringref05_Scan.mono _ _ _)
      | (with_reducible exact sealringref06_blanks.mono _ _ _)
      | (with_reducible exact LeO.refl _)
      | (with_reducible exact LeO.none _)
      | (with_reducible refine LeO.ite ?_ ?_)
      | (with_reducible refine LeO.bind ?_ (fun _ => ?_))
      | exact ih0 _ _ _
      | exact ih1 _ _ _ _
      | exact ih2 _ _ _
      | exact sealringref04_Unquote.mono _ _ _
      | exact sealringref05_Scan.mono _ _ _
      | exact sealringref06_blanks.mono _ _ _
      | exact LeO.none _
      | refine LeO.ite ?_ ?_
      | refine LeO.bind ?_ (fun _ => ?_)
theorem sealringref06_Next.mono : ∀ a0 a1 k, LeO (sealringref06_Next.f k a0 a1) (sealringref06_Next.f (k + 1) a0 a1) := by
  intro a0 a1 k
  obtain ⟨ih0, ih1, ih2⟩ := sealringref06_Next.mono_l k
  unfold sealringref06_Next.f
  repeat' first
      | (with_reducible exact ih0 _ _ _)
      | (with_reducible exact ih1 _ _ _ _)
      | (with_reducible exact ih2 _ _ _)
      | (with_reducible exact sealringref04_Unquote.mono _ _ _)
      | (with_reducible exact sealringref05_Scan.mono _ _ _)
      | (with_reducible exact sealringref06_blanks.mono _ _ _)
      | (with_reducible exact LeO.refl _)
      | (with_reducible exact LeO.none _)
      | (with_reducible refine LeO.ite ?_ ?_)
      | (with_reducible refine LeO.bind ?_ (fun _ => ?_))
      | exact ih0 _ _ _
      | exact ih1 _ _ _ _
      | exact ih2 _ _ _
      | exact sealringref04_Unquote.mono _ _ _
      | exact sealringref05_Scan.mono _ _ _
      | exact sealringref06_blanks.mono _ _ _
      | exact LeO.none _
      | refine LeO.ite ?_ ?_
      | refine LeO.bind ?_ (fun _ => ?_)
set_option maxHeartbeats 8000000 in
set_option maxRecDepth 100000 in
theorem sealringref06_Next.calls (k : Nat) (a0 : ByteArray) (a1 : Int) (r1 : Int) (r2 : Int) (r3 : Int) (r4 : Int) (r5 : ByteArray) (r6 : Int) (w : World) (h : sealringref06_Next.f k a0 a1 = some (r1, r2, r3, r4, r5, r6)) :
    Calls Try.prog 8 #[.string a0, .int .i64 a1] w fun e w' => e = .returned (.tuple #[.agg #[.int .i64 r1, .int .i64 r2, .int .i64 r3, .int .i64 r4, .string r5], .int .i64 r6]) ∧ Below w.heap.size w w' := by
  have hu24 := Try.underlying24
  have HB := Aside0.mk (Below.refl w.heap.size w)
  have H : (if a1 < 0 then (sealringref06_Next.j0 k a0 a1 true) else (sealringref06_Next.j0 k a0 a1 (decide (a1 > (a0.size : Int))))) = some (r1, r2, r3, r4, r5, r6) := h
  clear h
  have HC3 := Aside0.mk H
  clear H
  go_enter Try.func8, Try.ntmps8
  go_upto_region 1 with (first | ((with_reducible refine gate_dst (N := 4) rfl ?_); (try (refine gate_guard (by rfl) ?_; dsimp only)); refine box_event ?hg (N := 4) ?hd (cs := #[.int .i64 0, .int .i64 0, .int .i64 0, .int .i64 0, .string (⟨#[]⟩ : ByteArray)]) (t := 24) ?hr ?_; (case hd => rfl); (case hg => rfl); (case hr => first | (go_simp; done) | (go_simp; rfl)); intro gb163 hg w4 hbox hb; have n0_ := Aside0.mk (below_step (by repeat (first | (with_reducible first | exact HB.out | apply below_alloc | apply pw_below_drewN | apply below_drew1) | exact HB.out)) hb); have n1_ := Aside0.mk (hbox); have n2_ := Aside0.mk ((by rw [hg]; exact (below_size (by repeat (first | (with_reducible first | exact HB.out | apply below_alloc | apply pw_below_drewN | apply below_drew1) | exact HB.out))) : w.heap.size ≤ gb163)); have n3_ := Aside0.mk ((by rw [hg]; exact (below_size (by repeat (first | (with_reducible first | exact HB.out | apply below_alloc | apply pw_below_drewN | apply below_drew1) | exact HB.out))) : w.heap.size ≤ gb163)); clear HB; have HB := n0_; have BK163 := n1_; have GW163 := n2_; have GE163 := n3_; clear n0_ n1_ n2_ n3_; clear hb hbox hg))
  (try simp only [Act.put, List.setIfInBounds_toArray, List.set_cons_zero, List.set_cons_succ])
  go_cut [21] (fun v21 wc => ∃ (kq : Nat) (x21_2 : Bool), v21 = .bool x21_2 ∧ Aside0 (sealringref06_Next.j0 kq a0 a1 x21_2 = some (r1, r2, r3, r4, r5, r6)) ∧ Aside0 (kq ≤ k) ∧ Aside0 (wc.heap[gb163]? = some (.cells #[.int .i64 0, .int .i64 0, .int .i64 0, .int .i64 0, .string (⟨#[]⟩ : ByteArray)] 24 (0, 0))) ∧ Aside0 (Below w.heap.size w wc))
  case first =>
    have H := HC3.out
    clear HC3
    by_cases c5 : a1 < 0
    · rw [if_pos c5] at H
      have c5b0 : decide (a1 < 0) = true := decide_eq_true c5
      clear c5
      (first | rw [c5b0] | (simp only [i64_w, i32_w]; rw [c5b0]) | skip)
      have H' := Aside0.mk H
      clear H
      go_wp2
      go_meet
      case rel => exact ⟨_, (true), (by first | rfl | (simp; done) | (simp [*]; done) | (simp [wrap64]; done)), (by first | with_reducible exact H' | exact H' | (subst_vars; exact H')), ⟨by first | omega | exact Nat.le_refl _⟩, ⟨by (with_reducible repeat (first | refine blk_drewN ?_ _ | refine blk_drew ?_ | refine blk_alloc ?_ _)); exact BK163.out⟩, ⟨by repeat (first | (with_reducible first | exact HB.out | apply below_alloc | apply pw_below_drewN | apply below_drew1 | refine below_set ?_ GE163.out) | exact HB.out)⟩⟩
    · rw [if_neg c5] at H
      have c5b0 : decide (a1 < 0) = false := decide_eq_false c5
      clear c5
      (first | rw [c5b0] | (simp only [i64_w, i32_w]; rw [c5b0]) | skip)
      have H' := Aside0.mk H
      clear H
      go_wp2
      go_meet
      case rel => exact ⟨_, (decide (a1 > (a0.size : Int))), (by first | rfl | (simp; done) | (simp [*]; done) | (simp [wrap64]; done)), (by first | with_reducible exact H' | exact H' | (subst_vars; exact H')), ⟨by first | omega | exact Nat.le_refl _⟩, ⟨by (with_reducible repeat (first | refine blk_drewN ?_ _ | refine blk_drew ?_ | refine blk_alloc ?_ _)); exact BK163.out⟩, ⟨by repeat (first | (with_reducible first | exact HB.out | apply below_alloc | apply pw_below_drewN | apply below_drew1 | refine below_set ?_ GE163.out) | exact HB.out)⟩⟩
  case rest =>
    clear HC3
    try clear p2
    try clear c5
    try clear c5b0
    obtain ⟨kq, x21_2, rfl, HA, HJ2, BK163, HB⟩ := hcut
    cases kq with
    | zero => exact absurd HA.out (by simp [sealringref06_Next.j0])
    | succ kj2 =>
      have H := HA.out
      clear HA
      simp only [sealringref06_Next.j0] at H
      by_cases c6 : x21_2 = true
      · subst c6
        have H1 : (some (0, 0, 0, 0, (⟨#[]⟩ : ByteArray), 1)) = some (r1, r2, r3, r4, r5, r6) := by rw [if_pos rfl] at H; exact H
        clear H
        have H := H1
        clear H1
        simp only [Option.some.injEq, Prod.mk.injEq] at H
        obtain ⟨rfl, rfl, rfl, rfl, rfl, rfl⟩ := H
        have hcz7_0 : wc.cell? ⟨gb163, 0, none⟩ = some (.int .i64 0) := (blk_cell BK163.out 0).trans rfl
        have hcz7_1 : wc.cell? ⟨gb163, 1, none⟩ = some (.int .i64 0) := (blk_cell BK163.out 1).trans rfl
        have hcz7_2 : wc.cell? ⟨gb163, 2, none⟩ = some (.int .i64 0) := (blk_cell BK163.out 2).trans rfl
        have hcz7_3 : wc.cell? ⟨gb163, 3, none⟩ = some (.int .i64 0) := (blk_cell BK163.out 3).trans rfl
        have hcz7_4 : wc.cell? ⟨gb163, 4, none⟩ = some (.string (⟨#[]⟩ : ByteArray)) := (blk_cell BK163.out 4).trans rfl
        have hfz7_0 := blk_frozen BK163.out 0
        have hfz7_1 := blk_frozen BK163.out 1
        have hfz7_2 := blk_frozen BK163.out 2
        have hfz7_3 := blk_frozen BK163.out 3
        have hfz7_4 := blk_frozen BK163.out 4
        go_wp2
        refine bodyPost_ret (results_ct rfl _ _ gb163 24 #[.int .i64 0, .int .i64 0, .int .i64 0, .int .i64 0, .string (⟨#[]⟩ : ByteArray)] (0, 0) _ rfl (by (with_reducible repeat (first | refine blk_drewN ?_ _ | refine blk_drew ?_ | refine blk_alloc ?_ _)); refine blk_put (cs := #[.int .i64 0, .int .i64 0, .int .i64 0, .int .i64 0, .string (⟨#[]⟩ : ByteArray)]) ?_ 4 _ rfl; (with_reducible repeat (first | refine blk_drewN ?_ _ | refine blk_drew ?_ | refine blk_alloc ?_ _)); refine blk_put (cs := #[.int .i64 0, .int .i64 0, .int .i64 0, .int .i64 0, .string (⟨#[]⟩ : ByteArray)]) ?_ 3 _ rfl; (with_reducible repeat (first | refine blk_drewN ?_ _ | refine blk_drew ?_ | refine blk_alloc ?_ _)); refine blk_put (cs := #[.int .i64 0, .int .i64 0, .int .i64 0, .int .i64 0, .string (⟨#[]⟩ : ByteArray)]) ?_ 2 _ rfl; (with_reducible repeat (first | refine blk_drewN ?_ _ | refine blk_drew ?_ | refine blk_alloc ?_ _)); refine blk_put (cs := #[.int .i64 0, .int .i64 0, .int .i64 0, .int .i64 0, .string (⟨#[]⟩ : ByteArray)]) ?_ 1 _ rfl; (with_reducible repeat (first | refine blk_drewN ?_ _ | refine blk_drew ?_ | refine blk_alloc ?_ _)); refine blk_put (cs := #[.int .i64 0, .int .i64 0, .int .i64 0, .int .i64 0, .string (⟨#[]⟩ : ByteArray)]) ?_ 0 _ rfl; (with_reducible repeat (first | refine blk_drewN ?_ _ | refine blk_drew ?_ | refine blk_alloc ?_ _)); exact BK163.out) Try.underlying24 rfl (by kernel_rfl)) rfl ?_
        exact ⟨by first | rfl | (simp [errW_none, errW_some] <;> rfl) | (simp [*, errW_none, errW_some] <;> rfl), by repeat (first | (with_reducible first | exact HB.out | apply below_alloc | apply pw_below_drewN | apply below_drew1 | refine below_set ?_ GE163.out) | exact HB.out)⟩
      · replace c6 := Bool.eq_false_iff.mpr c6
        subst c6
        have H1 : ((sealringref06_blanks.f kj2 a0 a1).bind fun t164 => (if t164 = (a0.size : Int) then (some (12, t164, t164, 0, (⟨#[]⟩ : ByteArray), 0)) else (sealringref06_Next.l0 kj2 a0 t164 (([(⟨#[123]⟩ : ByteArray), (⟨#[125]⟩ : ByteArray), (⟨#[91]⟩ : ByteArray), (⟨#[93]⟩ : ByteArray), (⟨#[44]⟩ : ByteArray), (⟨#[58]⟩ : ByteArray), (⟨#[116, 114, 117, 101]⟩ : ByteArray), (⟨#[102, 97, 108, 115, 101]⟩ : ByteArray), (⟨#[110, 117, 108, 108]⟩ : ByteArray)] : List ByteArray)) 0))) = some (r1, r2, r3, r4, r5, r6) := by rw [if_neg (show ¬ (false = true) by decide)] at H; exact H
        clear H
        have H := H1
        clear H1
        replace H := Option.bind_eq_some_iff.mp H
        obtain ⟨t164, A80, H⟩ := H
        replace H : (if t164 = (a0.size : Int) then (some (12, t164, t164, 0, (⟨#[]⟩ : ByteArray), 0)) else (sealringref06_Next.l0 kj2 a0 t164 (([(⟨#[123]⟩ : ByteArray), (⟨#[125]⟩ : ByteArray), (⟨#[91]⟩ : ByteArray), (⟨#[93]⟩ : ByteArray), (⟨#[44]⟩ : ByteArray), (⟨#[58]⟩ : ByteArray), (⟨#[116, 114, 117, 101]⟩ : ByteArray), (⟨#[102, 97, 108, 115, 101]⟩ : ByteArray), (⟨#[110, 117, 108, 108]⟩ : ByteArray)] : List ByteArray)) 0)) = some (r1, r2, r3, r4, r5, r6) := H
        have A8 := Aside0.mk A80
        clear A80
        by_cases c9 : t164 = (a0.size : Int)
        · rw [if_pos c9] at H
          have c9b0 : (t164 == (a0.size : Int)) = true := beq_iff_eq.mpr c9
          have c9b1 : (t164 != (a0.size : Int)) = false := bne_eq_false_iff_eq.mpr c9
          clear c9
          simp only [Option.some.injEq, Prod.mk.injEq] at H
          obtain ⟨rfl, rfl, rfl, rfl, rfl, rfl⟩ := H
          go_wp2_with (first | ((with_reducible refine gate_callee (f := 20) rfl ?_); refine goesL_ (some 25) rfl rfl Try.func20 (by kernel_rfl) rfl #[.string a0, .int .i64 a1] rfl (by (try simp only [List.map_toArray, List.map_cons, List.map_nil]); first | done | rfl | (simp only [List.length_drop, List.length_take]; rfl)) ?_; (with_reducible refine (sealringref06_blanks.calls kj2 a0 a1 t164 _ A8.out).mono ?_); rintro e w' ⟨rfl, ⟨nd, rfl⟩⟩; refine ⟨_, rfl, ?_⟩; (try (rw [drewN_self wc]; generalize hq_ : World.drewN wc _ = wc; have n0_ : Aside0 (wc.heap[gb163]? = some (.cells #[.int .i64 0, .int .i64 0, .int .i64 0, .int .i64 0, .string (⟨#[]⟩ : ByteArray)] 24 (0, 0))) := ⟨by rw [← hq_]; exact (by (with_reducible repeat (first | refine blk_drewN ?_ _ | refine blk_drew ?_ | refine blk_alloc ?_ _)); exact BK163.out)⟩; have n1_ : Aside0 (Below w.heap.size w wc) := ⟨by rw [← hq_]; exact (by repeat (first | (with_reducible first | exact HB.out | apply below_alloc | apply pw_below_drewN | apply below_drew1 | refine below_set ?_ GE163.out) | exact HB.out))⟩; clear BK163 HB hq_; have BK163 := n0_; have HB := n1_; clear n0_ n1_)); have hcz10_0 : wc.cell? ⟨gb163, 0, none⟩ = some (.int .i64 0) := (blk_cell BK163.out 0).trans rfl; have hcz10_1 : wc.cell? ⟨gb163, 1, none⟩ = some (.int .i64 0) := (blk_cell BK163.out 1).trans rfl; have hcz10_2 : wc.cell? ⟨gb163, 2, none⟩ = some (.int .i64 0) := (blk_cell BK163.out 2).trans rfl; have hcz10_3 : wc.cell? ⟨gb163, 3, none⟩ = some (.int .i64 0) := (blk_cell BK163.out 3).trans rfl; have hcz10_4 : wc.cell? ⟨gb163, 4, none⟩ = some (.string (⟨#[]⟩ : ByteArray)) := (blk_cell BK163.out 4).trans rfl; have hfz10_0 := blk_frozen BK163.out 0; have hfz10_1 := blk_frozen BK163.out 1; have hfz10_2 := blk_frozen BK163.out 2; have hfz10_3 := blk_frozen BK163.out 3; have hfz10_4 := blk_frozen BK163.out 4))
          refine bodyPost_ret (results_ct rfl _ _ gb163 24 #[.int .i64 12, .int .i64 t164, .int .i64 t164, .int .i64 0, .string (⟨#[]⟩ : ByteArray)] (0, 0) _ rfl (by (with_reducible repeat (first | refine blk_drewN ?_ _ | refine blk_drew ?_ | refine blk_alloc ?_ _)); refine blk_put (cs := #[.int .i64 12, .int .i64 t164, .int .i64 t164, .int .i64 0, .string (⟨#[]⟩ : ByteArray)]) ?_ 4 _ rfl; (with_reducible repeat (first | refine blk_drewN ?_ _ | refine blk_drew ?_ | refine blk_alloc ?_ _)); refine blk_put (cs := #[.int .i64 12, .int .i64 t164, .int .i64 t164, .int .i64 0, .string (⟨#[]⟩ : ByteArray)]) ?_ 3 _ rfl; (with_reducible repeat (first | refine blk_drewN ?_ _ | refine blk_drew ?_ | refine blk_alloc ?_ _)); refine blk_put (cs := #[.int .i64 12, .int .i64 t164, .int .i64 0, .int .i64 0, .string (⟨#[]⟩ : ByteArray)]) ?_ 2 _ rfl; (with_reducible repeat (first | refine blk_drewN ?_ _ | refine blk_drew ?_ | refine blk_alloc ?_ _)); refine blk_put (cs := #[.int .i64 12, .int .i64 0, .int .i64 0, .int .i64 0, .string (⟨#[]⟩ : ByteArray)]) ?_ 1 _ rfl; (with_reducible repeat (first | refine blk_drewN ?_ _ | refine blk_drew ?_ | refine blk_alloc ?_ _)); refine blk_put (cs := #[.int .i64 0, .int .i64 0, .int .i64 0, .int .i64 0, .string (⟨#[]⟩ : ByteArray)]) ?_ 0 _ rfl; (with_reducible repeat (first | refine blk_drewN ?_ _ | refine blk_drew ?_ | refine blk_alloc ?_ _)); exact BK163.out) Try.underlying24 rfl (by kernel_rfl)) rfl ?_
          exact ⟨by first | rfl | (simp [errW_none, errW_some] <;> rfl) | (simp [*, errW_none, errW_some] <;> rfl), by repeat (first | (with_reducible first | exact HB.out | apply below_alloc | apply pw_below_drewN | apply below_drew1 | refine below_set ?_ GE163.out) | exact HB.out)⟩
        · rw [if_neg c9] at H
          have c9b0 : (t164 == (a0.size : Int)) = false := beq_eq_false_iff_ne.mpr c9
          have c9b1 : (t164 != (a0.size : Int)) = true := bne_iff_ne.mpr c9
          obtain ⟨y165, hy165⟩ : ∃ y_ : List ByteArray, y_ = (([(⟨#[123]⟩ : ByteArray), (⟨#[125]⟩ : ByteArray), (⟨#[91]⟩ : ByteArray), (⟨#[93]⟩ : ByteArray), (⟨#[44]⟩ : ByteArray), (⟨#[58]⟩ : ByteArray), (⟨#[116, 114, 117, 101]⟩ : ByteArray), (⟨#[102, 97, 108, 115, 101]⟩ : ByteArray), (⟨#[110, 117, 108, 108]⟩ : ByteArray)] : List ByteArray)) := ⟨_, rfl⟩
          replace H : (sealringref06_Next.l0 kj2 a0 t164 y165 0) = some (r1, r2, r3, r4, r5, r6) := by first | (rw [hy165]; with_reducible exact H) | (have H2_ := (Option.bind_some _ _).symm.trans H; rw [hy165]; with_reducible exact H2_) | (have H2_ := (Option.bind_some _ _).symm.trans H; with_reducible exact H2_) | with_reducible exact H | (rw [hy165]; exact H) | exact H
          have Ny165 := Aside0.mk hy165
          clear hy165
          have H' := Aside0.mk H
          clear H
          go_wp2_with (first | ((with_reducible refine gate_callee (f := 20) rfl ?_); refine goesL_ (some 25) rfl rfl Try.func20 (by kernel_rfl) rfl #[.string a0, .int .i64 a1] rfl (by (try simp only [List.map_toArray, List.map_cons, List.map_nil]); first | done | rfl | (simp only [List.length_drop, List.length_take]; rfl)) ?_; (with_reducible refine (sealringref06_blanks.calls kj2 a0 a1 t164 _ A8.out).mono ?_); rintro e w' ⟨rfl, ⟨nd, rfl⟩⟩; refine ⟨_, rfl, ?_⟩) | ((with_reducible refine gate_dst (N := 33) rfl ?_); (try (refine gate_guard (by rfl) ?_; dsimp only)); refine Kd.R_lit Kd.string _ 9 ?hg (N := 33) ?hd (xs := ([(⟨#[123]⟩ : ByteArray), (⟨#[125]⟩ : ByteArray), (⟨#[91]⟩ : ByteArray), (⟨#[93]⟩ : ByteArray), (⟨#[44]⟩ : ByteArray), (⟨#[58]⟩ : ByteArray), (⟨#[116, 114, 117, 101]⟩ : ByteArray), (⟨#[102, 97, 108, 115, 101]⟩ : ByteArray), (⟨#[110, 117, 108, 108]⟩ : ByteArray)] : List ByteArray)) (inner := [.string (⟨#[123]⟩ : ByteArray), .string (⟨#[125]⟩ : ByteArray), .string (⟨#[91]⟩ : ByteArray), .string (⟨#[93]⟩ : ByteArray), .string (⟨#[44]⟩ : ByteArray), .string (⟨#[58]⟩ : ByteArray), .string (⟨#[116, 114, 117, 101]⟩ : ByteArray), .string (⟨#[102, 97, 108, 115, 101]⟩ : ByteArray), .string (⟨#[110, 117, 108, 108]⟩ : ByteArray)]) (ok := fun _ => True) (okp := fun _ => True) ?hr ?hp (fun _ hk => hk) trivial (Below.refl _ _) (Nat.le_refl _) (by simp) ?_; (case hd => rfl); (case hg => rfl); (case hr => first | (go_simp; done) | (go_simp; rfl)); (case hp => exact (Reps.one (show Kd.M Kd.string _ _ _ (⟨#[123]⟩ : ByteArray) [.string (⟨#[123]⟩ : ByteArray)] from rfl) (Reps.one (show Kd.M Kd.string _ _ _ (⟨#[125]⟩ : ByteArray) [.string (⟨#[125]⟩ : ByteArray)] from rfl) (Reps.one (show Kd.M Kd.string _ _ _ (⟨#[91]⟩ : ByteArray) [.string (⟨#[91]⟩ : ByteArray)] from rfl) (Reps.one (show Kd.M Kd.string _ _ _ (⟨#[93]⟩ : ByteArray) [.string (⟨#[93]⟩ : ByteArray)] from rfl) (Reps.one (show Kd.M Kd.string _ _ _ (⟨#[44]⟩ : ByteArray) [.string (⟨#[44]⟩ : ByteArray)] from rfl) (Reps.one (show Kd.M Kd.string _ _ _ (⟨#[58]⟩ : ByteArray) [.string (⟨#[58]⟩ : ByteArray)] from rfl) (Reps.one (show Kd.M Kd.string _ _ _ (⟨#[116, 114, 117, 101]⟩ : ByteArray) [.string (⟨#[116, 114, 117, 101]⟩ : ByteArray)] from rfl) (Reps.one (show Kd.M Kd.string _ _ _ (⟨#[102, 97, 108, 115, 101]⟩ : ByteArray) [.string (⟨#[102, 97, 108, 115, 101]⟩ : ByteArray)] from rfl) (Reps.one (show Kd.M Kd.string _ _ _ (⟨#[110, 117, 108, 108]⟩ : ByteArray) [.string (⟨#[110, 117, 108, 108]⟩ : ByteArray)] from rfl) (Reps.none _ _))))))))))); intro v166 w11 ho12 hb hg_ hnew_; clear hg_ hnew_; (first | rw [← Ny165.out] at ho12 | (simp only [Int.reduceToNat] at ho12; rw [← Ny165.out] at ho12)); have n0_ := Aside0.mk (Kd.R_lower ho12 (below_size (by repeat (first | (with_reducible first | exact HB.out | apply below_alloc | apply pw_below_drewN | apply below_drew1 | refine below_set ?_ GE163.out) | exact HB.out)))); have n1_ := Aside0.mk (blk_below (g := gb163) (o := .cells #[.int .i64 0, .int .i64 0, .int .i64 0, .int .i64 0, .string (⟨#[]⟩ : ByteArray)] 24 (0, 0)) (by (with_reducible repeat (first | refine blk_drewN ?_ _ | refine blk_drew ?_ | refine blk_alloc ?_ _)); exact BK163.out) hb); have n2_ := Aside0.mk (below_step (by repeat (first | (with_reducible first | exact HB.out | apply below_alloc | apply pw_below_drewN | apply below_drew1 | refine below_set ?_ GE163.out) | exact HB.out)) hb); clear BK163; clear HB; have HO167 := n0_; have BK163 := n1_; have HB := n2_; clear n0_ n1_ n2_; clear hb ho12))
          (try simp only [Go.IntKind.wrap_u8])
          go_loopg [7] kj2 (fun kq v7 w' => ∃ (x7_2 : Int) (x164000_2 : Int) (x164001_2 : Int) (x164002_2 : Int) (x164003_2 : Int) (x164004_2 : ByteArray), v7 = .int .i64 x7_2 ∧ Aside0 (sealringref06_Next.l0 kq a0 t164 y165 x7_2 = some (r1, r2, r3, r4, r5, r6)) ∧ Aside0 (kq ≤ kj2) ∧ Aside0 (Kd.R Kd.string 9 w' w.heap.size (fun _ => True) v166 y165) ∧ Aside0 (w'.heap[gb163]? = some (.cells #[.int .i64 x164000_2, .int .i64 x164001_2, .int .i64 x164002_2, .int .i64 x164003_2, .string x164004_2] 24 (0, 0))) ∧ Aside0 (Below w.heap.size w w'))
          case atStart => exact ⟨(0), (0), (0), (0), (0), ((⟨#[]⟩ : ByteArray)), (by first | rfl | (simp; done) | (simp [*]; done) | (simp [wrap64]; done)), (by first | with_reducible exact H' | exact H' | (subst_vars; exact H')), ⟨Nat.le_refl _⟩, ⟨by (with_reducible repeat (first | apply Kd.R_alloc | apply Kd.R_drewN | apply Kd.R_drew)); exact HO167.out⟩, ⟨by (with_reducible repeat (first | refine blk_drewN ?_ _ | refine blk_drew ?_ | refine blk_alloc ?_ _)); exact BK163.out⟩, ⟨by repeat (first | (with_reducible first | exact HB.out | apply below_alloc | apply pw_below_drewN | apply below_drew1 | refine below_set ?_ GE163.out) | exact HB.out)⟩⟩
          case round =>
            clear H'
            try clear c2
            try clear p2
            try clear c5
            try clear c5b0
            try clear c6
            try clear c8
            try clear c9
            try clear c9b0
            try clear c9b1
            try clear hcz10_0
            try clear hcz10_1
            try clear hcz10_2
            try clear hcz10_3
            try clear hcz10_4
            try clear hcz7_0
            try clear hcz7_1
            try clear hcz7_2
            try clear hcz7_3
            try clear hcz7_4
            try clear hfz10_0
            try clear hfz10_1
            try clear hfz10_2
            try clear hfz10_3
            try clear hfz10_4
            try clear hfz7_0
            try clear hfz7_1
            try clear hfz7_2
            try clear hfz7_3
            try clear hfz7_4
            try clear p2
            obtain ⟨x7_2, x164000_2, x164001_2, x164002_2, x164003_2, x164004_2, rfl, HA, HK2, HO_6, BK163, HB⟩ := hrel
            cases gk with
            | zero => exact absurd HA.out (by simp [sealringref06_Next.l0])
            | succ k2 =>
              have H := HA.out
              clear HA
              simp only [sealringref06_Next.l0] at H
              by_cases c13 : x7_2 < (y165.length : Int)
              · rw [if_pos c13] at H
                have c13b0 : decide (x7_2 < (y165.length : Int)) = true := decide_eq_true c13
                clear c13
                by_cases c14 : 0 ≤ x7_2
                · rw [if_pos c14] at H
                  have c14b0 : decide (0 ≤ x7_2) = true := decide_eq_true c14
                  clear c14
                  replace H := Option.bind_eq_some_iff.mp H
                  obtain ⟨t169, A150, H⟩ := H
                  replace H : (if t169 = true then (some (wrap64 (x7_2 + 1), t164, wrap64 (t164 + ((rdOf ByteArray.empty y165 x7_2).size : Int)), 0, (⟨#[]⟩ : ByteArray), 0)) else (sealringref06_Next.l0 k2 a0 t164 y165 (wrap64 (x7_2 + 1)))) = some (r1, r2, r3, r4, r5, r6) := H
                  have A15 := Aside0.mk A150
                  clear A150
                  by_cases c16 : t169 = true
                  · subst c16
                    have H1 : (some (wrap64 (x7_2 + 1), t164, wrap64 (t164 + ((rdOf ByteArray.empty y165 x7_2).size : Int)), 0, (⟨#[]⟩ : ByteArray), 0)) = some (r1, r2, r3, r4, r5, r6) := by rw [if_pos rfl] at H; exact H
                    clear H
                    have H := H1
                    clear H1
                    simp only [Option.some.injEq, Prod.mk.injEq] at H
                    obtain ⟨rfl, rfl, rfl, rfl, rfl, rfl⟩ := H
                    obtain ⟨Ao17, co17, eo17⟩ := Kd.R_slice HO_6.out
                    subst eo17
                    have p168 : 0 ≤ (x7_2 : Int) := of_decide_eq_true (by first | (with_reducible assumption) | assumption)
                    have q168 : x7_2 < (y165.length : Int) := of_decide_eq_true (by first | (with_reducible assumption) | assumption)
                    obtain ⟨ad168, e168, hx168_0⟩ := Kd.at_string (Kd.R_reads' HO_6.out).2.2 x7_2 p168 q168
                    cases e168
                    replace p168 := eq_true p168
                    replace q168 := eq_true q168
                    go_wp2_with (first | ((with_reducible refine gate_callee (f := 21) rfl ?_); refine goesL_ (some 46) rfl rfl Try.func21 (by kernel_rfl) rfl #[.string a0, .int .i64 t164, .string (rdOf ByteArray.empty y165 x7_2)] rfl (by (try simp only [List.map_toArray, List.map_cons, List.map_nil]); first | done | rfl | (simp only [List.length_drop, List.length_take]; rfl)) ?_; (with_reducible refine (sealringref06_word.calls a0 t164 (rdOf ByteArray.empty y165 x7_2) true _ A15.out).mono ?_); rintro e w' ⟨rfl, ⟨nd, rfl⟩⟩; refine ⟨_, rfl, ?_⟩; (try (rw [drewN_self wr]; generalize hq_ : World.drewN wr _ = wr; have n0_ : Aside0 (Kd.R Kd.string 9 wr w.heap.size (fun _ => True) (.slice (some ad168) y165.length co17) y165) := ⟨by rw [← hq_]; exact (by (with_reducible repeat (first | apply Kd.R_alloc | apply Kd.R_drewN | apply Kd.R_drew)); exact HO_6.out)⟩; have n1_ : Aside0 (wr.heap[gb163]? = some (.cells #[.int .i64 x164000_2, .int .i64 x164001_2, .int .i64 x164002_2, .int .i64 x164003_2, .string x164004_2] 24 (0, 0))) := ⟨by rw [← hq_]; exact (by (with_reducible repeat (first | refine blk_drewN ?_ _ | refine blk_drew ?_ | refine blk_alloc ?_ _)); exact BK163.out)⟩; have n2_ : Aside0 (Below w.heap.size w wr) := ⟨by rw [← hq_]; exact (by repeat (first | (with_reducible first | exact HB.out | apply below_alloc | apply pw_below_drewN | apply below_drew1 | refine below_set ?_ GE163.out) | exact HB.out))⟩; clear HO_6 BK163 HB hq_; have HO_6 := n0_; have BK163 := n1_; have HB := n2_; clear n0_ n1_ n2_)); have p170 : 0 ≤ (x7_2 : Int) := of_decide_eq_true (by first | (with_reducible assumption) | assumption); have q170 : x7_2 < (y165.length : Int) := of_decide_eq_true (by first | (with_reducible assumption) | assumption); obtain ⟨ad170, e170, hx170_0⟩ := Kd.at_string (Kd.R_reads' HO_6.out).2.2 x7_2 p170 q170; obtain rfl : ad168 = ad170 := (by injection e170); replace p170 := eq_true p170; replace q170 := eq_true q170; have hcz18_0 : wr.cell? ⟨gb163, 0, none⟩ = some (.int .i64 x164000_2) := (blk_cell BK163.out 0).trans rfl; have hcz18_1 : wr.cell? ⟨gb163, 1, none⟩ = some (.int .i64 x164001_2) := (blk_cell BK163.out 1).trans rfl; have hcz18_2 : wr.cell? ⟨gb163, 2, none⟩ = some (.int .i64 x164002_2) := (blk_cell BK163.out 2).trans rfl; have hcz18_3 : wr.cell? ⟨gb163, 3, none⟩ = some (.int .i64 x164003_2) := (blk_cell BK163.out 3).trans rfl; have hcz18_4 : wr.cell? ⟨gb163, 4, none⟩ = some (.string x164004_2) := (blk_cell BK163.out 4).trans rfl; have hfz18_0 := blk_frozen BK163.out 0; have hfz18_1 := blk_frozen BK163.out 1; have hfz18_2 := blk_frozen BK163.out 2; have hfz18_3 := blk_frozen BK163.out 3; have hfz18_4 := blk_frozen BK163.out 4))
                    refine bodyPost_ret (results_ct rfl _ _ gb163 24 #[.int .i64 (wrap64 (x7_2 + 1)), .int .i64 t164, .int .i64 (wrap64 (t164 + ((rdOf ByteArray.empty y165 x7_2).size : Int))), .int .i64 0, .string (⟨#[]⟩ : ByteArray)] (0, 0) _ rfl (by (with_reducible repeat (first | refine blk_drewN ?_ _ | refine blk_drew ?_ | refine blk_alloc ?_ _)); refine blk_put (cs := #[.int .i64 (wrap64 (x7_2 + 1)), .int .i64 t164, .int .i64 (wrap64 (t164 + ((rdOf ByteArray.empty y165 x7_2).size : Int))), .int .i64 0, .string x164004_2]) ?_ 4 _ rfl; (with_reducible repeat (first | refine blk_drewN ?_ _ | refine blk_drew ?_ | refine blk_alloc ?_ _)); refine blk_put (cs := #[.int .i64 (wrap64 (x7_2 + 1)), .int .i64 t164, .int .i64 (wrap64 (t164 + ((rdOf ByteArray.empty y165 x7_2).size : Int))), .int .i64 x164003_2, .string x164004_2]) ?_ 3 _ rfl; (with_reducible repeat (first | refine blk_drewN ?_ _ | refine blk_drew ?_ | refine blk_alloc ?_ _)); refine blk_put (cs := #[.int .i64 (wrap64 (x7_2 + 1)), .int .i64 t164, .int .i64 x164002_2, .int .i64 x164003_2, .string x164004_2]) ?_ 2 _ rfl; (with_reducible repeat (first | refine blk_drewN ?_ _ | refine blk_drew ?_ | refine blk_alloc ?_ _)); refine blk_put (cs := #[.int .i64 (wrap64 (x7_2 + 1)), .int .i64 x164001_2, .int .i64 x164002_2, .int .i64 x164003_2, .string x164004_2]) ?_ 1 _ rfl; (with_reducible repeat (first | refine blk_drewN ?_ _ | refine blk_drew ?_ | refine blk_alloc ?_ _)); refine blk_put (cs := #[.int .i64 x164000_2, .int .i64 x164001_2, .int .i64 x164002_2, .int .i64 x164003_2, .string x164004_2]) ?_ 0 _ rfl; (with_reducible repeat (first | refine blk_drewN ?_ _ | refine blk_drew ?_ | refine blk_alloc ?_ _)); exact BK163.out) Try.underlying24 rfl (by kernel_rfl)) rfl ?_
                    exact ⟨by first | rfl | (simp [errW_none, errW_some] <;> rfl) | (simp [*, errW_none, errW_some] <;> rfl), by repeat (first | (with_reducible first | exact HB.out | apply below_alloc | apply pw_below_drewN | apply below_drew1 | refine below_set ?_ GE163.out) | exact HB.out)⟩
                  · replace c16 := Bool.eq_false_iff.mpr c16
                    subst c16
                    have H1 : (sealringref06_Next.l0 k2 a0 t164 y165 (wrap64 (x7_2 + 1))) = some (r1, r2, r3, r4, r5, r6) := by rw [if_neg (show ¬ (false = true) by decide)] at H; exact H
                    clear H
                    have H := H1
                    clear H1
                    have H' := Aside0.mk H
                    clear H
                    obtain ⟨Ao19, co19, eo19⟩ := Kd.R_slice HO_6.out
                    subst eo19
                    have p168 : 0 ≤ (x7_2 : Int) := of_decide_eq_true (by first | (with_reducible assumption) | assumption)
                    have q168 : x7_2 < (y165.length : Int) := of_decide_eq_true (by first | (with_reducible assumption) | assumption)
                    obtain ⟨ad168, e168, hx168_0⟩ := Kd.at_string (Kd.R_reads' HO_6.out).2.2 x7_2 p168 q168
                    cases e168
                    replace p168 := eq_true p168
                    replace q168 := eq_true q168
                    go_wp2_with (first | ((with_reducible refine gate_callee (f := 21) rfl ?_); refine goesL_ (some 46) rfl rfl Try.func21 (by kernel_rfl) rfl #[.string a0, .int .i64 t164, .string (rdOf ByteArray.empty y165 x7_2)] rfl (by (try simp only [List.map_toArray, List.map_cons, List.map_nil]); first | done | rfl | (simp only [List.length_drop, List.length_take]; rfl)) ?_; (with_reducible refine (sealringref06_word.calls a0 t164 (rdOf ByteArray.empty y165 x7_2) false _ A15.out).mono ?_); rintro e w' ⟨rfl, ⟨nd, rfl⟩⟩; refine ⟨_, rfl, ?_⟩))
                    go_roundg k2
                    case measure => have := HJ2.out; have := HK2.out; omega
                    case rel => exact ⟨(wrap64 (x7_2 + 1)), (x164000_2), (x164001_2), (x164002_2), (x164003_2), (x164004_2), (by first | rfl | (simp; done) | (simp [*]; done) | (simp [wrap64]; done)), (by first | with_reducible exact H' | exact H' | (subst_vars; exact H')), ⟨by have := HJ2.out; have := HK2.out; omega⟩, ⟨by (with_reducible repeat (first | apply Kd.R_alloc | apply Kd.R_drewN | apply Kd.R_drew)); exact HO_6.out⟩, ⟨by (with_reducible repeat (first | refine blk_drewN ?_ _ | refine blk_drew ?_ | refine blk_alloc ?_ _)); exact BK163.out⟩, ⟨by repeat (first | (with_reducible first | exact HB.out | apply below_alloc | apply pw_below_drewN | apply below_drew1 | refine below_set ?_ GE163.out) | exact HB.out)⟩⟩
                · rw [if_neg c14] at H
                  exact absurd H (by simp)
              · rw [if_neg c13] at H
                have c13b0 : decide (x7_2 < (y165.length : Int)) = false := decide_eq_false c13
                clear c13
                by_cases c20 : 0 ≤ t164
                · rw [if_pos c20] at H
                  have c20b0 : decide (0 ≤ t164) = true := decide_eq_true c20
                  clear c20
                  by_cases c21 : t164 < (a0.size : Int)
                  · rw [if_pos c21] at H
                    have c21b0 : decide (t164 < (a0.size : Int)) = true := decide_eq_true c21
                    clear c21
                    by_cases c23 : (bt a0 t164) = 34
                    · rw [if_pos c23] at H
                      have c23b0 : ((bt a0 t164) == 34) = true := beq_iff_eq.mpr c23
                      have c23b1 : ((bt a0 t164) != 34) = false := bne_eq_false_iff_eq.mpr c23
                      clear c23
                      replace H := Option.bind_eq_some_iff.mp H
                      obtain ⟨⟨t171, t172, t173⟩, A240, H⟩ := H
                      replace H : (if t173 = 0 then (some (10, t164, t172, 0, t171, 0)) else (some (0, t164, 0, 0, (⟨#[]⟩ : ByteArray), t173))) = some (r1, r2, r3, r4, r5, r6) := H
                      have A24 := Aside0.mk A240
                      clear A240
                      by_cases c25 : t173 = 0
                      · rw [if_pos c25] at H
                        have c25b0 : (t173 == 0) = true := beq_iff_eq.mpr c25
                        have c25b1 : (t173 != 0) = false := bne_eq_false_iff_eq.mpr c25
                        clear c25
                        simp only [Option.some.injEq, Prod.mk.injEq] at H
                        obtain ⟨rfl, rfl, rfl, rfl, rfl, rfl⟩ := H
                        obtain ⟨Ao26, co26, eo26⟩ := Kd.R_slice HO_6.out
                        subst eo26
                        have p22 : 0 ≤ (t164 : Int) := of_decide_eq_true (by first | (with_reducible assumption) | assumption)
                        have q22 : t164 < (a0.size : Int) := of_decide_eq_true (by first | (with_reducible assumption) | assumption)
                        have hx22 := bt_at a0 t164
                        replace p22 := eq_true p22
                        replace q22 := eq_true q22
                        go_wp2_with (first | ((with_reducible refine gate_callee (f := 22) rfl ?_); refine goesL_ (some 65) rfl rfl Try.func22 (by kernel_rfl) rfl #[.string a0, .int .i64 t164] rfl (by (try simp only [List.map_toArray, List.map_cons, List.map_nil]); first | done | rfl | (simp only [List.length_drop, List.length_take]; rfl)) ?_; (with_reducible refine (sealringref04_Unquote.calls k2 a0 t164 t171 t172 t173 _ A24.out).mono ?_); rintro e w27 ⟨rfl, hb⟩; refine ⟨_, rfl, ?_⟩; have n0_ := Aside0.mk (Kd.R_below (by (with_reducible repeat (first | apply Kd.R_alloc | apply Kd.R_drewN | apply Kd.R_drew)); exact HO_6.out) hb); have n1_ := Aside0.mk (blk_below (g := gb163) (o := .cells #[.int .i64 x164000_2, .int .i64 x164001_2, .int .i64 x164002_2, .int .i64 x164003_2, .string x164004_2] 24 (0, 0)) (by (with_reducible repeat (first | refine blk_drewN ?_ _ | refine blk_drew ?_ | refine blk_alloc ?_ _)); exact BK163.out) hb); have n2_ := Aside0.mk (below_step (by repeat (first | (with_reducible first | exact HB.out | apply below_alloc | apply pw_below_drewN | apply below_drew1 | refine below_set ?_ GE163.out) | exact HB.out)) hb); clear HO_6; clear BK163; clear HB; have HO_6 := n0_; have BK163 := n1_; have HB := n2_; clear n0_ n1_ n2_; (try clear hb); (try clear hb2); (try clear hk); (try clear hi); have hcz28_0 : w27.cell? ⟨gb163, 0, none⟩ = some (.int .i64 x164000_2) := (blk_cell BK163.out 0).trans rfl; have hcz28_1 : w27.cell? ⟨gb163, 1, none⟩ = some (.int .i64 x164001_2) := (blk_cell BK163.out 1).trans rfl; have hcz28_2 : w27.cell? ⟨gb163, 2, none⟩ = some (.int .i64 x164002_2) := (blk_cell BK163.out 2).trans rfl; have hcz28_3 : w27.cell? ⟨gb163, 3, none⟩ = some (.int .i64 x164003_2) := (blk_cell BK163.out 3).trans rfl; have hcz28_4 : w27.cell? ⟨gb163, 4, none⟩ = some (.string x164004_2) := (blk_cell BK163.out 4).trans rfl; have hfz28_0 := blk_frozen BK163.out 0; have hfz28_1 := blk_frozen BK163.out 1; have hfz28_2 := blk_frozen BK163.out 2; have hfz28_3 := blk_frozen BK163.out 3; have hfz28_4 := blk_frozen BK163.out 4))
                        refine bodyPost_ret (results_ct rfl _ _ gb163 24 #[.int .i64 10, .int .i64 t164, .int .i64 t172, .int .i64 0, .string t171] (0, 0) _ rfl (by (with_reducible repeat (first | refine blk_drewN ?_ _ | refine blk_drew ?_ | refine blk_alloc ?_ _)); refine blk_put (cs := #[.int .i64 10, .int .i64 t164, .int .i64 t172, .int .i64 0, .string x164004_2]) ?_ 4 _ rfl; (with_reducible repeat (first | refine blk_drewN ?_ _ | refine blk_drew ?_ | refine blk_alloc ?_ _)); refine blk_put (cs := #[.int .i64 10, .int .i64 t164, .int .i64 t172, .int .i64 x164003_2, .string x164004_2]) ?_ 3 _ rfl; (with_reducible repeat (first | refine blk_drewN ?_ _ | refine blk_drew ?_ | refine blk_alloc ?_ _)); refine blk_put (cs := #[.int .i64 10, .int .i64 t164, .int .i64 x164002_2, .int .i64 x164003_2, .string x164004_2]) ?_ 2 _ rfl; (with_reducible repeat (first | refine blk_drewN ?_ _ | refine blk_drew ?_ | refine blk_alloc ?_ _)); refine blk_put (cs := #[.int .i64 10, .int .i64 x164001_2, .int .i64 x164002_2, .int .i64 x164003_2, .string x164004_2]) ?_ 1 _ rfl; (with_reducible repeat (first | refine blk_drewN ?_ _ | refine blk_drew ?_ | refine blk_alloc ?_ _)); refine blk_put (cs := #[.int .i64 x164000_2, .int .i64 x164001_2, .int .i64 x164002_2, .int .i64 x164003_2, .string x164004_2]) ?_ 0 _ rfl; (with_reducible repeat (first | refine blk_drewN ?_ _ | refine blk_drew ?_ | refine blk_alloc ?_ _)); exact BK163.out) Try.underlying24 rfl (by kernel_rfl)) rfl ?_
                        exact ⟨by first | rfl | (simp [errW_none, errW_some] <;> rfl) | (simp [*, errW_none, errW_some] <;> rfl), by repeat (first | (with_reducible first | exact HB.out | apply below_alloc | apply pw_below_drewN | apply below_drew1 | refine below_set ?_ GE163.out) | exact HB.out)⟩
                      · rw [if_neg c25] at H
                        have c25b0 : (t173 == 0) = false := beq_eq_false_iff_ne.mpr c25
                        have c25b1 : (t173 != 0) = true := bne_iff_ne.mpr c25
                        simp only [Option.some.injEq, Prod.mk.injEq] at H
                        obtain ⟨rfl, rfl, rfl, rfl, rfl, rfl⟩ := H
                        obtain ⟨Ao29, co29, eo29⟩ := Kd.R_slice HO_6.out
                        subst eo29
                        have p22 : 0 ≤ (t164 : Int) := of_decide_eq_true (by first | (with_reducible assumption) | assumption)
                        have q22 : t164 < (a0.size : Int) := of_decide_eq_true (by first | (with_reducible assumption) | assumption)
                        have hx22 := bt_at a0 t164
                        replace p22 := eq_true p22
                        replace q22 := eq_true q22
                        go_wp2_with (first | ((with_reducible refine gate_callee (f := 22) rfl ?_); refine goesL_ (some 65) rfl rfl Try.func22 (by kernel_rfl) rfl #[.string a0, .int .i64 t164] rfl (by (try simp only [List.map_toArray, List.map_cons, List.map_nil]); first | done | rfl | (simp only [List.length_drop, List.length_take]; rfl)) ?_; (with_reducible refine (sealringref04_Unquote.calls k2 a0 t164 t171 t172 t173 _ A24.out).mono ?_); rintro e w30 ⟨rfl, hb⟩; refine ⟨_, rfl, ?_⟩; have n0_ := Aside0.mk (Kd.R_below (by (with_reducible repeat (first | apply Kd.R_alloc | apply Kd.R_drewN | apply Kd.R_drew)); exact HO_6.out) hb); have n1_ := Aside0.mk (blk_below (g := gb163) (o := .cells #[.int .i64 x164000_2, .int .i64 x164001_2, .int .i64 x164002_2, .int .i64 x164003_2, .string x164004_2] 24 (0, 0)) (by (with_reducible repeat (first | refine blk_drewN ?_ _ | refine blk_drew ?_ | refine blk_alloc ?_ _)); exact BK163.out) hb); have n2_ := Aside0.mk (below_step (by repeat (first | (with_reducible first | exact HB.out | apply below_alloc | apply pw_below_drewN | apply below_drew1 | refine below_set ?_ GE163.out) | exact HB.out)) hb); clear HO_6; clear BK163; clear HB; have HO_6 := n0_; have BK163 := n1_; have HB := n2_; clear n0_ n1_ n2_; (try clear hb); (try clear hb2); (try clear hk); (try clear hi); have hcz31_0 : w30.cell? ⟨gb163, 0, none⟩ = some (.int .i64 x164000_2) := (blk_cell BK163.out 0).trans rfl; have hcz31_1 : w30.cell? ⟨gb163, 1, none⟩ = some (.int .i64 x164001_2) := (blk_cell BK163.out 1).trans rfl; have hcz31_2 : w30.cell? ⟨gb163, 2, none⟩ = some (.int .i64 x164002_2) := (blk_cell BK163.out 2).trans rfl; have hcz31_3 : w30.cell? ⟨gb163, 3, none⟩ = some (.int .i64 x164003_2) := (blk_cell BK163.out 3).trans rfl; have hcz31_4 : w30.cell? ⟨gb163, 4, none⟩ = some (.string x164004_2) := (blk_cell BK163.out 4).trans rfl; have hfz31_0 := blk_frozen BK163.out 0; have hfz31_1 := blk_frozen BK163.out 1; have hfz31_2 := blk_frozen BK163.out 2; have hfz31_3 := blk_frozen BK163.out 3; have hfz31_4 := blk_frozen BK163.out 4))
                        refine bodyPost_ret (results_ct rfl _ _ gb163 24 #[.int .i64 0, .int .i64 t164, .int .i64 0, .int .i64 0, .string (⟨#[]⟩ : ByteArray)] (0, 0) _ rfl (by (with_reducible repeat (first | refine blk_drewN ?_ _ | refine blk_drew ?_ | refine blk_alloc ?_ _)); refine blk_put (cs := #[.int .i64 0, .int .i64 t164, .int .i64 0, .int .i64 0, .string x164004_2]) ?_ 4 _ rfl; (with_reducible repeat (first | refine blk_drewN ?_ _ | refine blk_drew ?_ | refine blk_alloc ?_ _)); refine blk_put (cs := #[.int .i64 0, .int .i64 t164, .int .i64 0, .int .i64 x164003_2, .string x164004_2]) ?_ 3 _ rfl; (with_reducible repeat (first | refine blk_drewN ?_ _ | refine blk_drew ?_ | refine blk_alloc ?_ _)); refine blk_put (cs := #[.int .i64 0, .int .i64 t164, .int .i64 x164002_2, .int .i64 x164003_2, .string x164004_2]) ?_ 2 _ rfl; (with_reducible repeat (first | refine blk_drewN ?_ _ | refine blk_drew ?_ | refine blk_alloc ?_ _)); refine blk_put (cs := #[.int .i64 0, .int .i64 x164001_2, .int .i64 x164002_2, .int .i64 x164003_2, .string x164004_2]) ?_ 1 _ rfl; (with_reducible repeat (first | refine blk_drewN ?_ _ | refine blk_drew ?_ | refine blk_alloc ?_ _)); refine blk_put (cs := #[.int .i64 x164000_2, .int .i64 x164001_2, .int .i64 x164002_2, .int .i64 x164003_2, .string x164004_2]) ?_ 0 _ rfl; (with_reducible repeat (first | refine blk_drewN ?_ _ | refine blk_drew ?_ | refine blk_alloc ?_ _)); exact BK163.out) Try.underlying24 rfl (by kernel_rfl)) rfl ?_
                        exact ⟨by first | rfl | (simp [errW_none, errW_some] <;> rfl) | (simp [*, errW_none, errW_some] <;> rfl), by repeat (first | (with_reducible first | exact HB.out | apply below_alloc | apply pw_below_drewN | apply below_drew1 | refine below_set ?_ GE163.out) | exact HB.out)⟩
                    · rw [if_neg c23] at H
                      have c23b0 : ((bt a0 t164) == 34) = false := beq_eq_false_iff_ne.mpr c23
                      have c23b1 : ((bt a0 t164) != 34) = true := bne_iff_ne.mpr c23
                      have HC32 := Aside0.mk H
                      clear H
                      obtain ⟨Ao33, co33, eo33⟩ := Kd.R_slice HO_6.out
                      subst eo33
                      have p22 : 0 ≤ (t164 : Int) := of_decide_eq_true (by first | (with_reducible assumption) | assumption)
                      have q22 : t164 < (a0.size : Int) := of_decide_eq_true (by first | (with_reducible assumption) | assumption)
                      have hx22 := bt_at a0 t164
                      replace p22 := eq_true p22
                      replace q22 := eq_true q22
                      go_upto_region 17 with (fail)
                      go_cut [93] (fun v93 wc => ∃ (kq : Nat) (x93_31 : Bool), v93 = .bool x93_31 ∧ Aside0 (sealringref06_Next.j2 kq a0 t164 x93_31 = some (r1, r2, r3, r4, r5, r6)) ∧ Aside0 (kq ≤ k2) ∧ Aside0 (wc.heap[gb163]? = some (.cells #[.int .i64 x164000_2, .int .i64 x164001_2, .int .i64 x164002_2, .int .i64 x164003_2, .string x164004_2] 24 (0, 0))) ∧ Aside0 (Below w.heap.size w wc))
                      case first =>
                        have H := HC32.out
                        clear HC32
                        by_cases c35 : (bt a0 t164) = 45
                        · rw [if_pos c35] at H
                          have c35b0 : ((bt a0 t164) == 45) = true := beq_iff_eq.mpr c35
                          have c35b1 : ((bt a0 t164) != 45) = false := bne_eq_false_iff_eq.mpr c35
                          clear c35
                          (first | rw [c35b0] | (simp only [i64_w, i32_w]; rw [c35b0]) | skip)
                          have H' := Aside0.mk H
                          clear H
                          have p34 : 0 ≤ (t164 : Int) := of_decide_eq_true (by first | (with_reducible assumption) | assumption)
                          have q34 : t164 < (a0.size : Int) := of_decide_eq_true (by first | (with_reducible assumption) | assumption)
                          have hx34 := bt_at a0 t164
                          replace p34 := eq_true p34
                          replace q34 := eq_true q34
                          go_wp2
                          go_meet
                          case rel => exact ⟨_, (true), (by first | rfl | (simp; done) | (simp [*]; done) | (simp [wrap64]; done)), (by first | with_reducible exact H' | exact H' | (subst_vars; exact H')), ⟨by have := HJ2.out; have := HK2.out; first | omega | exact Nat.le_refl _⟩, ⟨by (with_reducible repeat (first | refine blk_drewN ?_ _ | refine blk_drew ?_ | refine blk_alloc ?_ _)); exact BK163.out⟩, ⟨by repeat (first | (with_reducible first | exact HB.out | apply below_alloc | apply pw_below_drewN | apply below_drew1 | refine below_set ?_ GE163.out) | exact HB.out)⟩⟩
                        · rw [if_neg c35] at H
                          have c35b0 : ((bt a0 t164) == 45) = false := beq_eq_false_iff_ne.mpr c35
                          have c35b1 : ((bt a0 t164) != 45) = true := bne_iff_ne.mpr c35
                          (first | rw [c35b0] | (simp only [i64_w, i32_w]; rw [c35b0]) | skip)
                          by_cases c37 : (bt a0 t164) ≥ 48
                          · rw [if_pos c37] at H
                            have c37b0 : decide (48 ≤ (bt a0 t164)) = true := decide_eq_true c37
                            clear c37
                            have H' := Aside0.mk H
                            clear H
                            have p34 : 0 ≤ (t164 : Int) := of_decide_eq_true (by first | (with_reducible assumption) | assumption)
                            have q34 : t164 < (a0.size : Int) := of_decide_eq_true (by first | (with_reducible assumption) | assumption)
                            have hx34 := bt_at a0 t164
                            replace p34 := eq_true p34
                            replace q34 := eq_true q34
                            have p36 : 0 ≤ (t164 : Int) := of_decide_eq_true (by first | (with_reducible assumption) | assumption)
                            have q36 : t164 < (a0.size : Int) := of_decide_eq_true (by first | (with_reducible assumption) | assumption)
                            have hx36 := bt_at a0 t164
                            replace p36 := eq_true p36
                            replace q36 := eq_true q36
                            have p38 : 0 ≤ (t164 : Int) := of_decide_eq_true (by first | (with_reducible assumption) | assumption)
                            have q38 : t164 < (a0.size : Int) := of_decide_eq_true (by first | (with_reducible assumption) | assumption)
                            have hx38 := bt_at a0 t164
                            replace p38 := eq_true p38
                            replace q38 := eq_true q38
                            go_wp2
                            go_meet
                            case rel => exact ⟨_, (decide ((bt a0 t164) ≤ 57)), (by first | rfl | (simp; done) | (simp [*]; done) | (simp [wrap64]; done)), (by first | with_reducible exact H' | exact H' | (subst_vars; exact H')), ⟨by have := HJ2.out; have := HK2.out; first | omega | exact Nat.le_refl _⟩, ⟨by (with_reducible repeat (first | refine blk_drewN ?_ _ | refine blk_drew ?_ | refine blk_alloc ?_ _)); exact BK163.out⟩, ⟨by repeat (first | (with_reducible first | exact HB.out | apply below_alloc | apply pw_below_drewN | apply below_drew1 | refine below_set ?_ GE163.out) | exact HB.out)⟩⟩
                          · rw [if_neg c37] at H
                            have c37b0 : decide (48 ≤ (bt a0 t164)) = false := decide_eq_false c37
                            clear c37
                            have H' := Aside0.mk H
                            clear H
                            have p34 : 0 ≤ (t164 : Int) := of_decide_eq_true (by first | (with_reducible assumption) | assumption)
                            have q34 : t164 < (a0.size : Int) := of_decide_eq_true (by first | (with_reducible assumption) | assumption)
                            have hx34 := bt_at a0 t164
                            replace p34 := eq_true p34
                            replace q34 := eq_true q34
                            have p36 : 0 ≤ (t164 : Int) := of_decide_eq_true (by first | (with_reducible assumption) | assumption)
                            have q36 : t164 < (a0.size : Int) := of_decide_eq_true (by first | (with_reducible assumption) | assumption)
                            have hx36 := bt_at a0 t164
                            replace p36 := eq_true p36
                            replace q36 := eq_true q36
                            go_wp2
                            go_meet
                            case rel => exact ⟨_, (false), (by first | rfl | (simp; done) | (simp [*]; done) | (simp [wrap64]; done)), (by first | with_reducible exact H' | exact H' | (subst_vars; exact H')), ⟨by have := HJ2.out; have := HK2.out; first | omega | exact Nat.le_refl _⟩, ⟨by (with_reducible repeat (first | refine blk_drewN ?_ _ | refine blk_drew ?_ | refine blk_alloc ?_ _)); exact BK163.out⟩, ⟨by repeat (first | (with_reducible first | exact HB.out | apply below_alloc | apply pw_below_drewN | apply below_drew1 | refine below_set ?_ GE163.out) | exact HB.out)⟩⟩
                      case rest =>
                        clear HC32
                        try clear c1
                        try clear p1
                        try clear q1
                        try clear hx1
                        try clear c2
                        try clear p2
                        try clear q2
                        try clear hx2
                        try clear c3
                        try clear p3
                        try clear q3
                        try clear hx3
                        try clear c5
                        try clear c5b0
                        try clear c6
                        try clear p6
                        try clear c8
                        try clear c9
                        try clear c9b0
                        try clear c9b1
                        try clear c13
                        try clear c13b0
                        try clear c14
                        try clear c14b0
                        try clear c16
                        try clear p16
                        try clear q16
                        try clear hx16
                        try clear p17
                        try clear q17
                        try clear hx17
                        try clear c20
                        try clear c20b0
                        try clear c21
                        try clear c21b0
                        try clear c22
                        try clear p22
                        try clear q22
                        try clear hx22
                        try clear c23
                        try clear c23b0
                        try clear c23b1
                        try clear c25
                        try clear c25b0
                        try clear c25b1
                        try clear p34
                        try clear q34
                        try clear hx34
                        try clear c35
                        try clear c35b0
                        try clear c35b1
                        try clear p36
                        try clear q36
                        try clear hx36
                        try clear c37
                        try clear c37b0
                        try clear p38
                        try clear q38
                        try clear hx38
                        try clear hcz10_0
                        try clear hcz10_1
                        try clear hcz10_2
                        try clear hcz10_3
                        try clear hcz10_4
                        try clear hcz18_0
                        try clear hcz18_1
                        try clear hcz18_2
                        try clear hcz18_3
                        try clear hcz18_4
                        try clear hcz28_0
                        try clear hcz28_1
                        try clear hcz28_2
                        try clear hcz28_3
                        try clear hcz28_4
                        try clear hcz31_0
                        try clear hcz31_1
                        try clear hcz31_2
                        try clear hcz31_3
                        try clear hcz31_4
                        try clear hcz7_0
                        try clear hcz7_1
                        try clear hcz7_2
                        try clear hcz7_3
                        try clear hcz7_4
                        try clear hfz10_0
                        try clear hfz10_1
                        try clear hfz10_2
                        try clear hfz10_3
                        try clear hfz10_4
                        try clear hfz18_0
                        try clear hfz18_1
                        try clear hfz18_2
                        try clear hfz18_3
                        try clear hfz18_4
                        try clear hfz28_0
                        try clear hfz28_1
                        try clear hfz28_2
                        try clear hfz28_3
                        try clear hfz28_4
                        try clear hfz31_0
                        try clear hfz31_1
                        try clear hfz31_2
                        try clear hfz31_3
                        try clear hfz31_4
                        try clear hfz7_0
                        try clear hfz7_1
                        try clear hfz7_2
                        try clear hfz7_3
                        try clear hfz7_4
                        try clear hx168_0
                        try clear hx170_0
                        try clear p168
                        try clear p170
                        try clear p2
                        try clear p22
                        try clear p34
                        try clear p36
                        try clear p38
                        try clear q168
                        try clear q170
                        try clear q22
                        try clear q34
                        try clear q36
                        try clear q38
                        obtain ⟨kq, x93_31, rfl, HA, HJ31, BK163, HB⟩ := hcut
                        cases kq with
                        | zero => exact absurd HA.out (by simp [sealringref06_Next.j2])
                        | succ kj31 =>
                          have H := HA.out
                          clear HA
                          simp only [sealringref06_Next.j2] at H
                          by_cases c39 : x93_31 = true
                          · subst c39
                            have H1 : ((sealringref05_Scan.f kj31 a0 t164).bind fun bt174 => (if bt174.2.2 = 0 then (some (11, t164, bt174.2.1, bt174.1, (⟨#[]⟩ : ByteArray), 0)) else (some (0, t164, 0, 0, (⟨#[]⟩ : ByteArray), bt174.2.2)))) = some (r1, r2, r3, r4, r5, r6) := by rw [if_pos rfl] at H; exact H
                            clear H
                            have H := H1
                            clear H1
                            replace H := Option.bind_eq_some_iff.mp H
                            obtain ⟨⟨t174, t175, t176⟩, A400, H⟩ := H
                            replace H : (if t176 = 0 then (some (11, t164, t175, t174, (⟨#[]⟩ : ByteArray), 0)) else (some (0, t164, 0, 0, (⟨#[]⟩ : ByteArray), t176))) = some (r1, r2, r3, r4, r5, r6) := H
                            have A40 := Aside0.mk A400
                            clear A400
                            by_cases c41 : t176 = 0
                            · rw [if_pos c41] at H
                              have c41b0 : (t176 == 0) = true := beq_iff_eq.mpr c41
                              have c41b1 : (t176 != 0) = false := bne_eq_false_iff_eq.mpr c41
                              clear c41
                              simp only [Option.some.injEq, Prod.mk.injEq] at H
                              obtain ⟨rfl, rfl, rfl, rfl, rfl, rfl⟩ := H
                              go_wp2_with (first | ((with_reducible refine gate_callee (f := 23) rfl ?_); refine goesL_ (some 97) rfl rfl Try.func23 (by kernel_rfl) rfl #[.string a0, .int .i64 t164] rfl (by (try simp only [List.map_toArray, List.map_cons, List.map_nil]); first | done | rfl | (simp only [List.length_drop, List.length_take]; rfl)) ?_; (with_reducible refine (sealringref05_Scan.calls kj31 a0 t164 t174 t175 t176 _ A40.out).mono ?_); rintro e w' ⟨rfl, ⟨nd, rfl⟩⟩; refine ⟨_, rfl, ?_⟩; (try (rw [drewN_self wc]; generalize hq_ : World.drewN wc _ = wc; have n0_ : Aside0 (wc.heap[gb163]? = some (.cells #[.int .i64 x164000_2, .int .i64 x164001_2, .int .i64 x164002_2, .int .i64 x164003_2, .string x164004_2] 24 (0, 0))) := ⟨by rw [← hq_]; exact (by (with_reducible repeat (first | refine blk_drewN ?_ _ | refine blk_drew ?_ | refine blk_alloc ?_ _)); exact BK163.out)⟩; have n1_ : Aside0 (Below w.heap.size w wc) := ⟨by rw [← hq_]; exact (by repeat (first | (with_reducible first | exact HB.out | apply below_alloc | apply pw_below_drewN | apply below_drew1 | refine below_set ?_ GE163.out) | exact HB.out))⟩; clear BK163 HB hq_; have BK163 := n0_; have HB := n1_; clear n0_ n1_)); have hcz42_0 : wc.cell? ⟨gb163, 0, none⟩ = some (.int .i64 x164000_2) := (blk_cell BK163.out 0).trans rfl; have hcz42_1 : wc.cell? ⟨gb163, 1, none⟩ = some (.int .i64 x164001_2) := (blk_cell BK163.out 1).trans rfl; have hcz42_2 : wc.cell? ⟨gb163, 2, none⟩ = some (.int .i64 x164002_2) := (blk_cell BK163.out 2).trans rfl; have hcz42_3 : wc.cell? ⟨gb163, 3, none⟩ = some (.int .i64 x164003_2) := (blk_cell BK163.out 3).trans rfl; have hcz42_4 : wc.cell? ⟨gb163, 4, none⟩ = some (.string x164004_2) := (blk_cell BK163.out 4).trans rfl; have hfz42_0 := blk_frozen BK163.out 0; have hfz42_1 := blk_frozen BK163.out 1; have hfz42_2 := blk_frozen BK163.out 2; have hfz42_3 := blk_frozen BK163.out 3; have hfz42_4 := blk_frozen BK163.out 4))
                              refine bodyPost_ret (results_ct rfl _ _ gb163 24 #[.int .i64 11, .int .i64 t164, .int .i64 t175, .int .i64 t174, .string (⟨#[]⟩ : ByteArray)] (0, 0) _ rfl (by (with_reducible repeat (first | refine blk_drewN ?_ _ | refine blk_drew ?_ | refine blk_alloc ?_ _)); refine blk_put (cs := #[.int .i64 11, .int .i64 t164, .int .i64 t175, .int .i64 t174, .string x164004_2]) ?_ 4 _ rfl; (with_reducible repeat (first | refine blk_drewN ?_ _ | refine blk_drew ?_ | refine blk_alloc ?_ _)); refine blk_put (cs := #[.int .i64 11, .int .i64 t164, .int .i64 t175, .int .i64 x164003_2, .string x164004_2]) ?_ 3 _ rfl; (with_reducible repeat (first | refine blk_drewN ?_ _ | refine blk_drew ?_ | refine blk_alloc ?_ _)); refine blk_put (cs := #[.int .i64 11, .int .i64 t164, .int .i64 x164002_2, .int .i64 x164003_2, .string x164004_2]) ?_ 2 _ rfl; (with_reducible repeat (first | refine blk_drewN ?_ _ | refine blk_drew ?_ | refine blk_alloc ?_ _)); refine blk_put (cs := #[.int .i64 11, .int .i64 x164001_2, .int .i64 x164002_2, .int .i64 x164003_2, .string x164004_2]) ?_ 1 _ rfl; (with_reducible repeat (first | refine blk_drewN ?_ _ | refine blk_drew ?_ | refine blk_alloc ?_ _)); refine blk_put (cs := #[.int .i64 x164000_2, .int .i64 x164001_2, .int .i64 x164002_2, .int .i64 x164003_2, .string x164004_2]) ?_ 0 _ rfl; (with_reducible repeat (first | refine blk_drewN ?_ _ | refine blk_drew ?_ | refine blk_alloc ?_ _)); exact BK163.out) Try.underlying24 rfl (by kernel_rfl)) rfl ?_
                              exact ⟨by first | rfl | (simp [errW_none, errW_some] <;> rfl) | (simp [*, errW_none, errW_some] <;> rfl), by repeat (first | (with_reducible first | exact HB.out | apply below_alloc | apply pw_below_drewN | apply below_drew1 | refine below_set ?_ GE163.out) | exact HB.out)⟩
                            · rw [if_neg c41] at H
                              have c41b0 : (t176 == 0) = false := beq_eq_false_iff_ne.mpr c41
                              have c41b1 : (t176 != 0) = true := bne_iff_ne.mpr c41
                              simp only [Option.some.injEq, Prod.mk.injEq] at H
                              obtain ⟨rfl, rfl, rfl, rfl, rfl, rfl⟩ := H
                              go_wp2_with (first | ((with_reducible refine gate_callee (f := 23) rfl ?_); refine goesL_ (some 97) rfl rfl Try.func23 (by kernel_rfl) rfl #[.string a0, .int .i64 t164] rfl (by (try simp only [List.map_toArray, List.map_cons, List.map_nil]); first | done | rfl | (simp only [List.length_drop, List.length_take]; rfl)) ?_; (with_reducible refine (sealringref05_Scan.calls kj31 a0 t164 t174 t175 t176 _ A40.out).mono ?_); rintro e w' ⟨rfl, ⟨nd, rfl⟩⟩; refine ⟨_, rfl, ?_⟩; (try (rw [drewN_self wc]; generalize hq_ : World.drewN wc _ = wc; have n0_ : Aside0 (wc.heap[gb163]? = some (.cells #[.int .i64 x164000_2, .int .i64 x164001_2, .int .i64 x164002_2, .int .i64 x164003_2, .string x164004_2] 24 (0, 0))) := ⟨by rw [← hq_]; exact (by (with_reducible repeat (first | refine blk_drewN ?_ _ | refine blk_drew ?_ | refine blk_alloc ?_ _)); exact BK163.out)⟩; have n1_ : Aside0 (Below w.heap.size w wc) := ⟨by rw [← hq_]; exact (by repeat (first | (with_reducible first | exact HB.out | apply below_alloc | apply pw_below_drewN | apply below_drew1 | refine below_set ?_ GE163.out) | exact HB.out))⟩; clear BK163 HB hq_; have BK163 := n0_; have HB := n1_; clear n0_ n1_)); have hcz43_0 : wc.cell? ⟨gb163, 0, none⟩ = some (.int .i64 x164000_2) := (blk_cell BK163.out 0).trans rfl; have hcz43_1 : wc.cell? ⟨gb163, 1, none⟩ = some (.int .i64 x164001_2) := (blk_cell BK163.out 1).trans rfl; have hcz43_2 : wc.cell? ⟨gb163, 2, none⟩ = some (.int .i64 x164002_2) := (blk_cell BK163.out 2).trans rfl; have hcz43_3 : wc.cell? ⟨gb163, 3, none⟩ = some (.int .i64 x164003_2) := (blk_cell BK163.out 3).trans rfl; have hcz43_4 : wc.cell? ⟨gb163, 4, none⟩ = some (.string x164004_2) := (blk_cell BK163.out 4).trans rfl; have hfz43_0 := blk_frozen BK163.out 0; have hfz43_1 := blk_frozen BK163.out 1; have hfz43_2 := blk_frozen BK163.out 2; have hfz43_3 := blk_frozen BK163.out 3; have hfz43_4 := blk_frozen BK163.out 4))
                              refine bodyPost_ret (results_ct rfl _ _ gb163 24 #[.int .i64 0, .int .i64 t164, .int .i64 0, .int .i64 0, .string (⟨#[]⟩ : ByteArray)] (0, 0) _ rfl (by (with_reducible repeat (first | refine blk_drewN ?_ _ | refine blk_drew ?_ | refine blk_alloc ?_ _)); refine blk_put (cs := #[.int .i64 0, .int .i64 t164, .int .i64 0, .int .i64 0, .string x164004_2]) ?_ 4 _ rfl; (with_reducible repeat (first | refine blk_drewN ?_ _ | refine blk_drew ?_ | refine blk_alloc ?_ _)); refine blk_put (cs := #[.int .i64 0, .int .i64 t164, .int .i64 0, .int .i64 x164003_2, .string x164004_2]) ?_ 3 _ rfl; (with_reducible repeat (first | refine blk_drewN ?_ _ | refine blk_drew ?_ | refine blk_alloc ?_ _)); refine blk_put (cs := #[.int .i64 0, .int .i64 t164, .int .i64 x164002_2, .int .i64 x164003_2, .string x164004_2]) ?_ 2 _ rfl; (with_reducible repeat (first | refine blk_drewN ?_ _ | refine blk_drew ?_ | refine blk_alloc ?_ _)); refine blk_put (cs := #[.int .i64 0, .int .i64 x164001_2, .int .i64 x164002_2, .int .i64 x164003_2, .string x164004_2]) ?_ 1 _ rfl; (with_reducible repeat (first | refine blk_drewN ?_ _ | refine blk_drew ?_ | refine blk_alloc ?_ _)); refine blk_put (cs := #[.int .i64 x164000_2, .int .i64 x164001_2, .int .i64 x164002_2, .int .i64 x164003_2, .string x164004_2]) ?_ 0 _ rfl; (with_reducible repeat (first | refine blk_drewN ?_ _ | refine blk_drew ?_ | refine blk_alloc ?_ _)); exact BK163.out) Try.underlying24 rfl (by kernel_rfl)) rfl ?_
                              exact ⟨by first | rfl | (simp [errW_none, errW_some] <;> rfl) | (simp [*, errW_none, errW_some] <;> rfl), by repeat (first | (with_reducible first | exact HB.out | apply below_alloc | apply pw_below_drewN | apply below_drew1 | refine below_set ?_ GE163.out) | exact HB.out)⟩
                          · replace c39 := Bool.eq_false_iff.mpr c39
                            subst c39
                            have H1 : (some (0, t164, 0, 0, (⟨#[]⟩ : ByteArray), 6)) = some (r1, r2, r3, r4, r5, r6) := by rw [if_neg (show ¬ (false = true) by decide)] at H; exact H
                            clear H
                            have H := H1
                            clear H1
                            simp only [Option.some.injEq, Prod.mk.injEq] at H
                            obtain ⟨rfl, rfl, rfl, rfl, rfl, rfl⟩ := H
                            have hcz44_0 : wc.cell? ⟨gb163, 0, none⟩ = some (.int .i64 x164000_2) := (blk_cell BK163.out 0).trans rfl
                            have hcz44_1 : wc.cell? ⟨gb163, 1, none⟩ = some (.int .i64 x164001_2) := (blk_cell BK163.out 1).trans rfl
                            have hcz44_2 : wc.cell? ⟨gb163, 2, none⟩ = some (.int .i64 x164002_2) := (blk_cell BK163.out 2).trans rfl
                            have hcz44_3 : wc.cell? ⟨gb163, 3, none⟩ = some (.int .i64 x164003_2) := (blk_cell BK163.out 3).trans rfl
                            have hcz44_4 : wc.cell? ⟨gb163, 4, none⟩ = some (.string x164004_2) := (blk_cell BK163.out 4).trans rfl
                            have hfz44_0 := blk_frozen BK163.out 0
                            have hfz44_1 := blk_frozen BK163.out 1
                            have hfz44_2 := blk_frozen BK163.out 2
                            have hfz44_3 := blk_frozen BK163.out 3
                            have hfz44_4 := blk_frozen BK163.out 4
                            go_wp2
                            refine bodyPost_ret (results_ct rfl _ _ gb163 24 #[.int .i64 0, .int .i64 t164, .int .i64 0, .int .i64 0, .string (⟨#[]⟩ : ByteArray)] (0, 0) _ rfl (by (with_reducible repeat (first | refine blk_drewN ?_ _ | refine blk_drew ?_ | refine blk_alloc ?_ _)); refine blk_put (cs := #[.int .i64 0, .int .i64 t164, .int .i64 0, .int .i64 0, .string x164004_2]) ?_ 4 _ rfl; (with_reducible repeat (first | refine blk_drewN ?_ _ | refine blk_drew ?_ | refine blk_alloc ?_ _)); refine blk_put (cs := #[.int .i64 0, .int .i64 t164, .int .i64 0, .int .i64 x164003_2, .string x164004_2]) ?_ 3 _ rfl; (with_reducible repeat (first | refine blk_drewN ?_ _ | refine blk_drew ?_ | refine blk_alloc ?_ _)); refine blk_put (cs := #[.int .i64 0, .int .i64 t164, .int .i64 x164002_2, .int .i64 x164003_2, .string x164004_2]) ?_ 2 _ rfl; (with_reducible repeat (first | refine blk_drewN ?_ _ | refine blk_drew ?_ | refine blk_alloc ?_ _)); refine blk_put (cs := #[.int .i64 0, .int .i64 x164001_2, .int .i64 x164002_2, .int .i64 x164003_2, .string x164004_2]) ?_ 1 _ rfl; (with_reducible repeat (first | refine blk_drewN ?_ _ | refine blk_drew ?_ | refine blk_alloc ?_ _)); refine blk_put (cs := #[.int .i64 x164000_2, .int .i64 x164001_2, .int .i64 x164002_2, .int .i64 x164003_2, .string x164004_2]) ?_ 0 _ rfl; (with_reducible repeat (first | refine blk_drewN ?_ _ | refine blk_drew ?_ | refine blk_alloc ?_ _)); exact BK163.out) Try.underlying24 rfl (by kernel_rfl)) rfl ?_
                            exact ⟨by first | rfl | (simp [errW_none, errW_some] <;> rfl) | (simp [*, errW_none, errW_some] <;> rfl), by repeat (first | (with_reducible first | exact HB.out | apply below_alloc | apply pw_below_drewN | apply below_drew1 | refine below_set ?_ GE163.out) | exact HB.out)⟩
                  · rw [if_neg c21] at H
                    exact absurd H (by simp)
                · rw [if_neg c20] at H
                  exact absurd H (by simp)
end Go.Proofs.Ytjdgjifacdnkgaa.X
end
section
namespace Go.Proofs.Ytjdgjifacdnkgaa.X
open Go.RowKit Go.Proofs.YtjdgjifacdnkgaaW.PrintWords Go.Proofs.YtjdgjifacdnkgaaW.PrintLast Go.Proofs.YtjdgjifacdnkgaaW.PrintMore
attribute [local go_sem] max2_int min2_int max_two min_two max_three min_three max_four min_four
set_option linter.unusedVariables false
set_option linter.unusedSimpArgs false
attribute [local go_sem high] eqA24
def sealringlaw06_LexNext.f (k : Nat) (a0 : ByteArray) (a1 : Int) : Option (Bool) := if (a0.size : Int) > 300 then ((sealringlaw06_lives.f).bind fun t177 => (some t177)) else ((lex_Next.f a0 a1).bind fun bt178 => ((sealringref06_Next.f k a0 a1).bind fun bt185 => (if (bt178.1 == bt185.1 && (bt178.2.1 == bt185.2.1 && (bt178.2.2.1 == bt185.2.2.1 && (bt178.2.2.2.1 == bt185.2.2.2.1 && (bt178.2.2.2.2.1.toList == bt185.2.2.2.2.1.toList))))) = true then (if bt178.2.2.2.2.2 = bt185.2.2.2.2.2 then ((sealringlaw06_lives.f).bind fun t192 => (some t192)) else (some false)) else (some false))))
theorem sealringlaw06_LexNext.mono : ∀ a0 a1 k, LeO (sealringlaw06_LexNext.f k a0 a1) (sealringlaw06_LexNext.f (k + 1) a0 a1) := by
  intro a0 a1 k
  unfold sealringlaw06_LexNext.f
  repeat' first
      | (with_reducible exact sealringref06_Next.mono _ _ _)
      | (with_reducible exact LeO.refl _)
      | (with_reducible exact LeO.none _)
      | (with_reducible refine LeO.ite ?_ ?_)
      | (with_reducible refine LeO.bind ?_ (fun _ => ?_))
      | exact sealringref06_Next.mono _ _ _
      | exact LeO.none _
      | refine LeO.ite ?_ ?_
      | refine LeO.bind ?_ (fun _ => ?_)
set_option maxHeartbeats 8000000 in
set_option maxRecDepth 100000 in
theorem sealringlaw06_LexNext.calls (k : Nat) (a0 : ByteArray) (a1 : Int) (r : Bool) (w : World) (h : sealringlaw06_LexNext.f k a0 a1 = some r) :
    Calls Try.prog 3 #[.string a0, .int .i64 a1] w fun e w' => e = .returned (.bool r) ∧ Below w.heap.size w w' := by
  have hu24 := Try.underlying24
  have HB := Aside0.mk (Below.refl w.heap.size w)
  have H : (if (a0.size : Int) > 300 then ((sealringlaw06_lives.f).bind fun t177 => (some t177)) else ((lex_Next.f a0 a1).bind fun bt178 => ((sealringref06_Next.f k a0 a1).bind fun bt185 => (if (bt178.1 == bt185.1 && (bt178.2.1 == bt185.2.1 && (bt178.2.2.1 == bt185.2.2.1 && (bt178.2.2.2.1 == bt185.2.2.2.1 && (bt178.2.2.2.2.1.toList == bt185.2.2.2.2.1.toList))))) = true then (if bt178.2.2.2.2.2 = bt185.2.2.2.2.2 then ((sealringlaw06_lives.f).bind fun t192 => (some t192)) else (some false)) else (some false))))) = some r := h
  clear h
  by_cases c3 : (a0.size : Int) > 300
  · rw [if_pos c3] at H
    have c3b0 : decide (300 < (a0.size : Int)) = true := decide_eq_true c3
    have c3b1 : decide (300 < a0.size) = true := decide_eq_true (by omega)
    clear c3
    replace H := Option.bind_eq_some_iff.mp H
    obtain ⟨t177, A40, H⟩ := H
    replace H : (some t177) = some r := H
    have A4 := Aside0.mk A40
    clear A40
    obtain rfl := Option.some.inj H
    go_enter Try.func3, Try.ntmps3
    go_wp2_with (first | ((with_reducible refine gate_callee (f := 6) rfl ?_); refine goesL_ (some 12) rfl rfl Try.func6 (by kernel_rfl) rfl #[] rfl (by (try simp only [List.map_toArray, List.map_cons, List.map_nil]); first | done | rfl | (simp only [List.length_drop, List.length_take]; rfl)) ?_; (with_reducible refine (sealringlaw06_lives.calls  t177 _ A4.out).mono ?_); rintro e w5 ⟨rfl, hb⟩; refine ⟨_, rfl, ?_⟩; have n0_ := Aside0.mk (below_step (by repeat (first | (with_reducible first | exact HB.out | apply below_alloc | apply pw_below_drewN | apply below_drew1) | exact HB.out)) hb); clear HB; have HB := n0_; clear n0_; (try clear hb); (try clear hb2); (try clear hk); (try clear hi)))
    go_ret
    exact ⟨by first | rfl | (simp [errW_none, errW_some] <;> rfl) | (simp [*, errW_none, errW_some] <;> rfl), by repeat (first | (with_reducible first | exact HB.out | apply below_alloc | apply pw_below_drewN | apply below_drew1) | exact HB.out)⟩
  · rw [if_neg c3] at H
    have c3b0 : decide (300 < (a0.size : Int)) = false := decide_eq_false c3
    have c3b1 : decide (300 < a0.size) = false := decide_eq_false (by omega)
    clear c3
    replace H := Option.bind_eq_some_iff.mp H
    obtain ⟨⟨t178, t179, t180, t181, t182, t183⟩, A60, H⟩ := H
    replace H : ((sealringref06_Next.f k a0 a1).bind fun bt185 => (if (t178 == bt185.1 && (t179 == bt185.2.1 && (t180 == bt185.2.2.1 && (t181 == bt185.2.2.2.1 && (t182.toList == bt185.2.2.2.2.1.toList))))) = true then (if t183 = bt185.2.2.2.2.2 then ((sealringlaw06_lives.f).bind fun t192 => (some t192)) else (some false)) else (some false))) = some r := H
    have A6 := Aside0.mk A60
    clear A60
    replace H := Option.bind_eq_some_iff.mp H
    obtain ⟨⟨t185, t186, t187, t188, t189, t190⟩, A70, H⟩ := H
    replace H : (if (t178 == t185 && (t179 == t186 && (t180 == t187 && (t181 == t188 && (t182.toList == t189.toList))))) = true then (if t183 = t190 then ((sealringlaw06_lives.f).bind fun t192 => (some t192)) else (some false)) else (some false)) = some r := H
    have A7 := Aside0.mk A70
    clear A70
    by_cases c8 : (t178 == t185 && (t179 == t186 && (t180 == t187 && (t181 == t188 && (t182.toList == t189.toList))))) = true
    · rw [if_pos c8] at H
      have c8b0 : (t178 == t185 && (t179 == t186 && (t180 == t187 && (t181 == t188 && (t182.toList == t189.toList))))) = true := c8
      (try (have c8b1 : decide (t178 = t185 && (t179 == t186 && (t180 == t187 && (t181 == t188 && (t182.toList == t189.toList))))) = true := by simpa using c8))
      (try (have c8b2 : (t178 == t185 && (t179 == t186 && (t180 == t187 && (t181 == t188 && (t182.toList == t189.toList))))) = true := by simpa using c8))
      clear c8
      by_cases c9 : t183 = t190
      · rw [if_pos c9] at H
        have c9b0 : (t183 == t190) = true := beq_iff_eq.mpr c9
        have c9b1 : (t183 != t190) = false := bne_eq_false_iff_eq.mpr c9
        clear c9
        replace H := Option.bind_eq_some_iff.mp H
        obtain ⟨t192, A100, H⟩ := H
        replace H : (some t192) = some r := H
        have A10 := Aside0.mk A100
        clear A100
        obtain rfl := Option.some.inj H
        go_enter Try.func3, Try.ntmps3
        go_wp2_with (first | ((with_reducible refine gate_callee (f := 7) rfl ?_); refine goesL_ (some 16) rfl rfl Try.func7 (by kernel_rfl) rfl #[.string a0, .int .i64 a1] rfl (by (try simp only [List.map_toArray, List.map_cons, List.map_nil]); first | done | rfl | (simp only [List.length_drop, List.length_take]; rfl)) ?_; (with_reducible refine (lex_Next.calls a0 a1 t178 t179 t180 t181 t182 t183 _ A6.out).mono ?_); rintro e w11 ⟨rfl, hb⟩; refine ⟨_, rfl, ?_⟩; have n0_ := Aside0.mk (below_step (by repeat (first | (with_reducible first | exact HB.out | apply below_alloc | apply pw_below_drewN | apply below_drew1) | exact HB.out)) hb); clear HB; have HB := n0_; clear n0_; (try clear hb); (try clear hb2); (try clear hk); (try clear hi)) | ((with_reducible refine gate_dst (N := 5) rfl ?_); refine box_event ?hg (N := 5) ?hd (cs := #[.int .i64 0, .int .i64 0, .int .i64 0, .int .i64 0, .string (⟨#[]⟩ : ByteArray)]) (t := 24) ?hr ?_; (case hd => rfl); (case hg => rfl); (case hr => first | (go_simp; done) | (go_simp; rfl)); intro gb184 hg w12 hbox hb; have n0_ := Aside0.mk (below_step (by repeat (first | (with_reducible first | exact HB.out | apply below_alloc | apply pw_below_drewN | apply below_drew1) | exact HB.out)) hb); have n1_ := Aside0.mk (hbox); have n2_ := Aside0.mk ((by rw [hg]; exact (below_size (by repeat (first | (with_reducible first | exact HB.out | apply below_alloc | apply pw_below_drewN | apply below_drew1) | exact HB.out))) : w.heap.size ≤ gb184)); have n3_ := Aside0.mk ((by rw [hg]; exact (below_size (by repeat (first | (with_reducible first | exact HB.out | apply below_alloc | apply pw_below_drewN | apply below_drew1) | exact HB.out))) : w.heap.size ≤ gb184)); clear HB; have HB := n0_; have BK184 := n1_; have GW184 := n2_; have GE184 := n3_; clear n0_ n1_ n2_ n3_; clear hb hbox hg; have hcz13_0 : w12.cell? ⟨gb184, 0, none⟩ = some (.int .i64 0) := (blk_cell BK184.out 0).trans rfl; have hcz13_1 : w12.cell? ⟨gb184, 1, none⟩ = some (.int .i64 0) := (blk_cell BK184.out 1).trans rfl; have hcz13_2 : w12.cell? ⟨gb184, 2, none⟩ = some (.int .i64 0) := (blk_cell BK184.out 2).trans rfl; have hcz13_3 : w12.cell? ⟨gb184, 3, none⟩ = some (.int .i64 0) := (blk_cell BK184.out 3).trans rfl; have hcz13_4 : w12.cell? ⟨gb184, 4, none⟩ = some (.string (⟨#[]⟩ : ByteArray)) := (blk_cell BK184.out 4).trans rfl; have hfz13_0 := blk_frozen BK184.out 0; have hfz13_1 := blk_frozen BK184.out 1; have hfz13_2 := blk_frozen BK184.out 2; have hfz13_3 := blk_frozen BK184.out 3; have hfz13_4 := blk_frozen BK184.out 4) | ((with_reducible refine gate_callee (f := 8) rfl ?_); refine goesL_ (some 22) rfl rfl Try.func8 (by kernel_rfl) rfl #[.string a0, .int .i64 a1] rfl (by (try simp only [List.map_toArray, List.map_cons, List.map_nil]); first | done | rfl | (simp only [List.length_drop, List.length_take]; rfl)) ?_; (with_reducible refine (sealringref06_Next.calls k a0 a1 t185 t186 t187 t188 t189 t190 _ A7.out).mono ?_); rintro e w14 ⟨rfl, hb⟩; refine ⟨_, rfl, ?_⟩; have n0_ := Aside0.mk (blk_below (g := gb184) (o := .cells #[.int .i64 t178, .int .i64 t179, .int .i64 t180, .int .i64 t181, .string t182] 24 (0, 0)) (by (with_reducible repeat (first | refine blk_drewN ?_ _ | refine blk_drew ?_ | refine blk_alloc ?_ _)); refine blk_put (cs := #[.int .i64 t178, .int .i64 t179, .int .i64 t180, .int .i64 t181, .string (⟨#[]⟩ : ByteArray)]) ?_ 4 _ rfl; (with_reducible repeat (first | refine blk_drewN ?_ _ | refine blk_drew ?_ | refine blk_alloc ?_ _)); refine blk_put (cs := #[.int .i64 t178, .int .i64 t179, .int .i64 t180, .int .i64 0, .string (⟨#[]⟩ : ByteArray)]) ?_ 3 _ rfl; (with_reducible repeat (first | refine blk_drewN ?_ _ | refine blk_drew ?_ | refine blk_alloc ?_ _)); refine blk_put (cs := #[.int .i64 t178, .int .i64 t179, .int .i64 0, .int .i64 0, .string (⟨#[]⟩ : ByteArray)]) ?_ 2 _ rfl; (with_reducible repeat (first | refine blk_drewN ?_ _ | refine blk_drew ?_ | refine blk_alloc ?_ _)); refine blk_put (cs := #[.int .i64 t178, .int .i64 0, .int .i64 0, .int .i64 0, .string (⟨#[]⟩ : ByteArray)]) ?_ 1 _ rfl; (with_reducible repeat (first | refine blk_drewN ?_ _ | refine blk_drew ?_ | refine blk_alloc ?_ _)); refine blk_put (cs := #[.int .i64 0, .int .i64 0, .int .i64 0, .int .i64 0, .string (⟨#[]⟩ : ByteArray)]) ?_ 0 _ rfl; (with_reducible repeat (first | refine blk_drewN ?_ _ | refine blk_drew ?_ | refine blk_alloc ?_ _)); exact BK184.out) hb); have n1_ := Aside0.mk (below_step (by repeat (first | (with_reducible first | exact HB.out | apply below_alloc | apply pw_below_drewN | apply below_drew1 | refine below_set ?_ GE184.out) | exact HB.out)) hb); clear BK184; clear HB; have BK184 := n0_; have HB := n1_; clear n0_ n1_; (try clear hb); (try clear hb2); (try clear hk); (try clear hi)) | ((with_reducible refine gate_dst (N := 7) rfl ?_); refine box_event ?hg (N := 7) ?hd (cs := #[.int .i64 0, .int .i64 0, .int .i64 0, .int .i64 0, .string (⟨#[]⟩ : ByteArray)]) (t := 24) ?hr ?_; (case hd => rfl); (case hg => rfl); (case hr => first | (go_simp; done) | (go_simp; rfl)); intro gb191 hg w15 hbox hb; have n0_ := Aside0.mk (blk_below (g := gb184) (o := .cells #[.int .i64 t178, .int .i64 t179, .int .i64 t180, .int .i64 t181, .string t182] 24 (0, 0)) (by (with_reducible repeat (first | refine blk_drewN ?_ _ | refine blk_drew ?_ | refine blk_alloc ?_ _)); exact BK184.out) hb); have n1_ := Aside0.mk (below_step (by repeat (first | (with_reducible first | exact HB.out | apply below_alloc | apply pw_below_drewN | apply below_drew1 | refine below_set ?_ GE184.out) | exact HB.out)) hb); have n2_ := Aside0.mk (hbox); have n3_ := Aside0.mk ((by rw [hg]; exact (below_size (by repeat (first | (with_reducible first | exact HB.out | apply below_alloc | apply pw_below_drewN | apply below_drew1 | refine below_set ?_ GE184.out) | exact HB.out))) : w.heap.size ≤ gb191)); have n4_ := Aside0.mk ((by rw [hg]; exact (below_size (by repeat (first | (with_reducible first | exact HB.out | apply below_alloc | apply pw_below_drewN | apply below_drew1 | refine below_set ?_ GE184.out) | exact HB.out))) : w.heap.size ≤ gb191)); have n5_ := Aside0.mk ((by rw [hg]; exact Nat.ne_of_lt (blk_lt (g := gb184) (o := .cells #[.int .i64 t178, .int .i64 t179, .int .i64 t180, .int .i64 t181, .string t182] 24 (0, 0)) (by (with_reducible repeat (first | refine blk_drewN ?_ _ | refine blk_drew ?_ | refine blk_alloc ?_ _)); exact BK184.out)) : gb184 ≠ gb191)); have n6_ := Aside0.mk ((by rw [hg]; exact Nat.ne_of_gt (blk_lt (g := gb184) (o := .cells #[.int .i64 t178, .int .i64 t179, .int .i64 t180, .int .i64 t181, .string t182] 24 (0, 0)) (by (with_reducible repeat (first | refine blk_drewN ?_ _ | refine blk_drew ?_ | refine blk_alloc ?_ _)); exact BK184.out)) : gb191 ≠ gb184)); clear BK184; clear HB; have BK184 := n0_; have HB := n1_; have BK191 := n2_; have GW191 := n3_; have GE191 := n4_; have NB184_191 := n5_; have NB191_184 := n6_; clear n0_ n1_ n2_ n3_ n4_ n5_ n6_; clear hb hbox hg; have hnb16 := NB191_184.out; have hnc16 := NB184_191.out; have hcz17_0 : w15.cell? ⟨gb191, 0, none⟩ = some (.int .i64 0) := (blk_cell BK191.out 0).trans rfl; have hcz17_1 : w15.cell? ⟨gb191, 1, none⟩ = some (.int .i64 0) := (blk_cell BK191.out 1).trans rfl; have hcz17_2 : w15.cell? ⟨gb191, 2, none⟩ = some (.int .i64 0) := (blk_cell BK191.out 2).trans rfl; have hcz17_3 : w15.cell? ⟨gb191, 3, none⟩ = some (.int .i64 0) := (blk_cell BK191.out 3).trans rfl; have hcz17_4 : w15.cell? ⟨gb191, 4, none⟩ = some (.string (⟨#[]⟩ : ByteArray)) := (blk_cell BK191.out 4).trans rfl; have hfz17_0 := blk_frozen BK191.out 0; have hfz17_1 := blk_frozen BK191.out 1; have hfz17_2 := blk_frozen BK191.out 2; have hfz17_3 := blk_frozen BK191.out 3; have hfz17_4 := blk_frozen BK191.out 4; have hcz18_0 : w15.cell? ⟨gb184, 0, none⟩ = some (.int .i64 t178) := (blk_cell BK184.out 0).trans rfl; have hcz18_1 : w15.cell? ⟨gb184, 1, none⟩ = some (.int .i64 t179) := (blk_cell BK184.out 1).trans rfl; have hcz18_2 : w15.cell? ⟨gb184, 2, none⟩ = some (.int .i64 t180) := (blk_cell BK184.out 2).trans rfl; have hcz18_3 : w15.cell? ⟨gb184, 3, none⟩ = some (.int .i64 t181) := (blk_cell BK184.out 3).trans rfl; have hcz18_4 : w15.cell? ⟨gb184, 4, none⟩ = some (.string t182) := (blk_cell BK184.out 4).trans rfl; have hfz18_0 := blk_frozen BK184.out 0; have hfz18_1 := blk_frozen BK184.out 1; have hfz18_2 := blk_frozen BK184.out 2; have hfz18_3 := blk_frozen BK184.out 3; have hfz18_4 := blk_frozen BK184.out 4) | (go_at_call 6; (with_reducible refine (sealringlaw06_lives.calls  t192 _ A10.out).mono ?_); rintro e w19 ⟨rfl, hb⟩; have n0_ := Aside0.mk (blk_below (g := gb184) (o := .cells #[.int .i64 t178, .int .i64 t179, .int .i64 t180, .int .i64 t181, .string t182] 24 (0, 0)) (by (with_reducible repeat (first | refine blk_drewN ?_ _ | refine blk_drew ?_ | refine blk_alloc ?_ _)); refine blk_far ?_ NB184_191.out _; (with_reducible repeat (first | refine blk_drewN ?_ _ | refine blk_drew ?_ | refine blk_alloc ?_ _)); refine blk_far ?_ NB184_191.out _; (with_reducible repeat (first | refine blk_drewN ?_ _ | refine blk_drew ?_ | refine blk_alloc ?_ _)); refine blk_far ?_ NB184_191.out _; (with_reducible repeat (first | refine blk_drewN ?_ _ | refine blk_drew ?_ | refine blk_alloc ?_ _)); refine blk_far ?_ NB184_191.out _; (with_reducible repeat (first | refine blk_drewN ?_ _ | refine blk_drew ?_ | refine blk_alloc ?_ _)); refine blk_far ?_ NB184_191.out _; (with_reducible repeat (first | refine blk_drewN ?_ _ | refine blk_drew ?_ | refine blk_alloc ?_ _)); exact BK184.out) hb); have n1_ := Aside0.mk (blk_below (g := gb191) (o := .cells #[.int .i64 t185, .int .i64 t186, .int .i64 t187, .int .i64 t188, .string t189] 24 (0, 0)) (by (with_reducible repeat (first | refine blk_drewN ?_ _ | refine blk_drew ?_ | refine blk_alloc ?_ _)); refine blk_put (cs := #[.int .i64 t185, .int .i64 t186, .int .i64 t187, .int .i64 t188, .string (⟨#[]⟩ : ByteArray)]) ?_ 4 _ rfl; (with_reducible repeat (first | refine blk_drewN ?_ _ | refine blk_drew ?_ | refine blk_alloc ?_ _)); refine blk_put (cs := #[.int .i64 t185, .int .i64 t186, .int .i64 t187, .int .i64 0, .string (⟨#[]⟩ : ByteArray)]) ?_ 3 _ rfl; (with_reducible repeat (first | refine blk_drewN ?_ _ | refine blk_drew ?_ | refine blk_alloc ?_ _)); refine blk_put (cs := #[.int .i64 t185, .int .i64 t186, .int .i64 0, .int .i64 0, .string (⟨#[]⟩ : ByteArray)]) ?_ 2 _ rfl; (with_reducible repeat (first | refine blk_drewN ?_ _ | refine blk_drew ?_ | refine blk_alloc ?_ _)); refine blk_put (cs := #[.int .i64 t185, .int .i64 0, .int .i64 0, .int .i64 0, .string (⟨#[]⟩ : ByteArray)]) ?_ 1 _ rfl; (with_reducible repeat (first | refine blk_drewN ?_ _ | refine blk_drew ?_ | refine blk_alloc ?_ _)); refine blk_put (cs := #[.int .i64 0, .int .i64 0, .int .i64 0, .int .i64 0, .string (⟨#[]⟩ : ByteArray)]) ?_ 0 _ rfl; (with_reducible repeat (first | refine blk_drewN ?_ _ | refine blk_drew ?_ | refine blk_alloc ?_ _)); exact BK191.out) hb); have n2_ := Aside0.mk (below_step (by repeat (first | (with_reducible first | exact HB.out | apply below_alloc | apply pw_below_drewN | apply below_drew1 | refine below_set ?_ GE184.out | refine below_set ?_ GE191.out) | exact HB.out)) hb); clear BK184; clear BK191; clear HB; have BK184 := n0_; have BK191 := n1_; have HB := n2_; clear n0_ n1_ n2_; (try clear hb); (try clear hb2); (try clear hk); (try clear hi)))
        go_ret
        exact ⟨by first | rfl | (simp [errW_none, errW_some] <;> rfl) | (simp [*, errW_none, errW_some] <;> rfl), by repeat (first | (with_reducible first | exact HB.out | apply below_alloc | apply pw_below_drewN | apply below_drew1 | refine below_set ?_ GE184.out | refine below_set ?_ GE191.out) | exact HB.out)⟩
      · rw [if_neg c9] at H
        have c9b0 : (t183 == t190) = false := beq_eq_false_iff_ne.mpr c9
        have c9b1 : (t183 != t190) = true := bne_iff_ne.mpr c9
        obtain rfl := Option.some.inj H
        go_enter Try.func3, Try.ntmps3
        go_wp2_with (first | ((with_reducible refine gate_callee (f := 7) rfl ?_); refine goesL_ (some 16) rfl rfl Try.func7 (by kernel_rfl) rfl #[.string a0, .int .i64 a1] rfl (by (try simp only [List.map_toArray, List.map_cons, List.map_nil]); first | done | rfl | (simp only [List.length_drop, List.length_take]; rfl)) ?_; (with_reducible refine (lex_Next.calls a0 a1 t178 t179 t180 t181 t182 t183 _ A6.out).mono ?_); rintro e w20 ⟨rfl, hb⟩; refine ⟨_, rfl, ?_⟩; have n0_ := Aside0.mk (below_step (by repeat (first | (with_reducible first | exact HB.out | apply below_alloc | apply pw_below_drewN | apply below_drew1) | exact HB.out)) hb); clear HB; have HB := n0_; clear n0_; (try clear hb); (try clear hb2); (try clear hk); (try clear hi)) | ((with_reducible refine gate_dst (N := 5) rfl ?_); refine box_event ?hg (N := 5) ?hd (cs := #[.int .i64 0, .int .i64 0, .int .i64 0, .int .i64 0, .string (⟨#[]⟩ : ByteArray)]) (t := 24) ?hr ?_; (case hd => rfl); (case hg => rfl); (case hr => first | (go_simp; done) | (go_simp; rfl)); intro gb184 hg w21 hbox hb; have n0_ := Aside0.mk (below_step (by repeat (first | (with_reducible first | exact HB.out | apply below_alloc | apply pw_below_drewN | apply below_drew1) | exact HB.out)) hb); have n1_ := Aside0.mk (hbox); have n2_ := Aside0.mk ((by rw [hg]; exact (below_size (by repeat (first | (with_reducible first | exact HB.out | apply below_alloc | apply pw_below_drewN | apply below_drew1) | exact HB.out))) : w.heap.size ≤ gb184)); have n3_ := Aside0.mk ((by rw [hg]; exact (below_size (by repeat (first | (with_reducible first | exact HB.out | apply below_alloc | apply pw_below_drewN | apply below_drew1) | exact HB.out))) : w.heap.size ≤ gb184)); clear HB; have HB := n0_; have BK184 := n1_; have GW184 := n2_; have GE184 := n3_; clear n0_ n1_ n2_ n3_; clear hb hbox hg; have hcz22_0 : w21.cell? ⟨gb184, 0, none⟩ = some (.int .i64 0) := (blk_cell BK184.out 0).trans rfl; have hcz22_1 : w21.cell? ⟨gb184, 1, none⟩ = some (.int .i64 0) := (blk_cell BK184.out 1).trans rfl; have hcz22_2 : w21.cell? ⟨gb184, 2, none⟩ = some (.int .i64 0) := (blk_cell BK184.out 2).trans rfl; have hcz22_3 : w21.cell? ⟨gb184, 3, none⟩ = some (.int .i64 0) := (blk_cell BK184.out 3).trans rfl; have hcz22_4 : w21.cell? ⟨gb184, 4, none⟩ = some (.string (⟨#[]⟩ : ByteArray)) := (blk_cell BK184.out 4).trans rfl; have hfz22_0 := blk_frozen BK184.out 0; have hfz22_1 := blk_frozen BK184.out 1; have hfz22_2 := blk_frozen BK184.out 2; have hfz22_3 := blk_frozen BK184.out 3; have hfz22_4 := blk_frozen BK184.out 4) | ((with_reducible refine gate_callee (f := 8) rfl ?_); refine goesL_ (some 22) rfl rfl Try.func8 (by kernel_rfl) rfl #[.string a0, .int .i64 a1] rfl (by (try simp only [List.map_toArray, List.map_cons, List.map_nil]); first | done | rfl | (simp only [List.length_drop, List.length_take]; rfl)) ?_; (with_reducible refine (sealringref06_Next.calls k a0 a1 t185 t186 t187 t188 t189 t190 _ A7.out).mono ?_); rintro e w23 ⟨rfl, hb⟩; refine ⟨_, rfl, ?_⟩; have n0_ := Aside0.mk (blk_below (g := gb184) (o := .cells #[.int .i64 t178, .int .i64 t179, .int .i64 t180, .int .i64 t181, .string t182] 24 (0, 0)) (by (with_reducible repeat (first | refine blk_drewN ?_ _ | refine blk_drew ?_ | refine blk_alloc ?_ _)); refine blk_put (cs := #[.int .i64 t178, .int .i64 t179, .int .i64 t180, .int .i64 t181, .string (⟨#[]⟩ : ByteArray)]) ?_ 4 _ rfl; (with_reducible repeat (first | refine blk_drewN ?_ _ | refine blk_drew ?_ | refine blk_alloc ?_ _)); refine blk_put (cs := #[.int .i64 t178, .int .i64 t179, .int .i64 t180, .int .i64 0, .string (⟨#[]⟩ : ByteArray)]) ?_ 3 _ rfl; (with_reducible repeat (first | refine blk_drewN ?_ _ | refine blk_drew ?_ | refine blk_alloc ?_ _)); refine blk_put (cs := #[.int .i64 t178, .int .i64 t179, .int .i64 0, .int .i64 0, .string (⟨#[]⟩ : ByteArray)]) ?_ 2 _ rfl; (with_reducible repeat (first | refine blk_drewN ?_ _ | refine blk_drew ?_ | refine blk_alloc ?_ _)); refine blk_put (cs := #[.int .i64 t178, .int .i64 0, .int .i64 0, .int .i64 0, .string (⟨#[]⟩ : ByteArray)]) ?_ 1 _ rfl; (with_reducible repeat (first | refine blk_drewN ?_ _ | refine blk_drew ?_ | refine blk_alloc ?_ _)); refine blk_put (cs := #[.int .i64 0, .int .i64 0, .int .i64 0, .int .i64 0, .string (⟨#[]⟩ : ByteArray)]) ?_ 0 _ rfl; (with_reducible repeat (first | refine blk_drewN ?_ _ | refine blk_drew ?_ | refine blk_alloc ?_ _)); exact BK184.out) hb); have n1_ := Aside0.mk (below_step (by repeat (first | (with_reducible first | exact HB.out | apply below_alloc | apply pw_below_drewN | apply below_drew1 | refine below_set ?_ GE184.out) | exact HB.out)) hb); clear BK184; clear HB; have BK184 := n0_; have HB := n1_; clear n0_ n1_; (try clear hb); (try clear hb2); (try clear hk); (try clear hi)) | ((with_reducible refine gate_dst (N := 7) rfl ?_); refine box_event ?hg (N := 7) ?hd (cs := #[.int .i64 0, .int .i64 0, .int .i64 0, .int .i64 0, .string (⟨#[]⟩ : ByteArray)]) (t := 24) ?hr ?_; (case hd => rfl); (case hg => rfl); (case hr => first | (go_simp; done) | (go_simp; rfl)); intro gb191 hg w24 hbox hb; have n0_ := Aside0.mk (blk_below (g := gb184) (o := .cells #[.int .i64 t178, .int .i64 t179, .int .i64 t180, .int .i64 t181, .string t182] 24 (0, 0)) (by (with_reducible repeat (first | refine blk_drewN ?_ _ | refine blk_drew ?_ | refine blk_alloc ?_ _)); exact BK184.out) hb); have n1_ := Aside0.mk (below_step (by repeat (first | (with_reducible first | exact HB.out | apply below_alloc | apply pw_below_drewN | apply below_drew1 | refine below_set ?_ GE184.out) | exact HB.out)) hb); have n2_ := Aside0.mk (hbox); have n3_ := Aside0.mk ((by rw [hg]; exact (below_size (by repeat (first | (with_reducible first | exact HB.out | apply below_alloc | apply pw_below_drewN | apply below_drew1 | refine below_set ?_ GE184.out) | exact HB.out))) : w.heap.size ≤ gb191)); have n4_ := Aside0.mk ((by rw [hg]; exact (below_size (by repeat (first | (with_reducible first | exact HB.out | apply below_alloc | apply pw_below_drewN | apply below_drew1 | refine below_set ?_ GE184.out) | exact HB.out))) : w.heap.size ≤ gb191)); have n5_ := Aside0.mk ((by rw [hg]; exact Nat.ne_of_lt (blk_lt (g := gb184) (o := .cells #[.int .i64 t178, .int .i64 t179, .int .i64 t180, .int .i64 t181, .string t182] 24 (0, 0)) (by (with_reducible repeat (first | refine blk_drewN ?_ _ | refine blk_drew ?_ | refine blk_alloc ?_ _)); exact BK184.out)) : gb184 ≠ gb191)); have n6_ := Aside0.mk ((by rw [hg]; exact Nat.ne_of_gt (blk_lt (g := gb184) (o := .cells #[.int .i64 t178, .int .i64 t179, .int .i64 t180, .int .i64 t181, .string t182] 24 (0, 0)) (by (with_reducible repeat (first | refine blk_drewN ?_ _ | refine blk_drew ?_ | refine blk_alloc ?_ _)); exact BK184.out)) : gb191 ≠ gb184)); clear BK184; clear HB; have BK184 := n0_; have HB := n1_; have BK191 := n2_; have GW191 := n3_; have GE191 := n4_; have NB184_191 := n5_; have NB191_184 := n6_; clear n0_ n1_ n2_ n3_ n4_ n5_ n6_; clear hb hbox hg; have hnb25 := NB191_184.out; have hnc25 := NB184_191.out; have hcz26_0 : w24.cell? ⟨gb191, 0, none⟩ = some (.int .i64 0) := (blk_cell BK191.out 0).trans rfl; have hcz26_1 : w24.cell? ⟨gb191, 1, none⟩ = some (.int .i64 0) := (blk_cell BK191.out 1).trans rfl; have hcz26_2 : w24.cell? ⟨gb191, 2, none⟩ = some (.int .i64 0) := (blk_cell BK191.out 2).trans rfl; have hcz26_3 : w24.cell? ⟨gb191, 3, none⟩ = some (.int .i64 0) := (blk_cell BK191.out 3).trans rfl; have hcz26_4 : w24.cell? ⟨gb191, 4, none⟩ = some (.string (⟨#[]⟩ : ByteArray)) := (blk_cell BK191.out 4).trans rfl; have hfz26_0 := blk_frozen BK191.out 0; have hfz26_1 := blk_frozen BK191.out 1; have hfz26_2 := blk_frozen BK191.out 2; have hfz26_3 := blk_frozen BK191.out 3; have hfz26_4 := blk_frozen BK191.out 4; have hcz27_0 : w24.cell? ⟨gb184, 0, none⟩ = some (.int .i64 t178) := (blk_cell BK184.out 0).trans rfl; have hcz27_1 : w24.cell? ⟨gb184, 1, none⟩ = some (.int .i64 t179) := (blk_cell BK184.out 1).trans rfl; have hcz27_2 : w24.cell? ⟨gb184, 2, none⟩ = some (.int .i64 t180) := (blk_cell BK184.out 2).trans rfl; have hcz27_3 : w24.cell? ⟨gb184, 3, none⟩ = some (.int .i64 t181) := (blk_cell BK184.out 3).trans rfl; have hcz27_4 : w24.cell? ⟨gb184, 4, none⟩ = some (.string t182) := (blk_cell BK184.out 4).trans rfl; have hfz27_0 := blk_frozen BK184.out 0; have hfz27_1 := blk_frozen BK184.out 1; have hfz27_2 := blk_frozen BK184.out 2; have hfz27_3 := blk_frozen BK184.out 3; have hfz27_4 := blk_frozen BK184.out 4))
        go_ret
        exact ⟨by first | rfl | (simp [errW_none, errW_some] <;> rfl) | (simp [*, errW_none, errW_some] <;> rfl), by repeat (first | (with_reducible first | exact HB.out | apply below_alloc | apply pw_below_drewN | apply below_drew1 | refine below_set ?_ GE184.out | refine below_set ?_ GE191.out) | exact HB.out)⟩
    · rw [if_neg c8] at H
      have c8b0 : (t178 == t185 && (t179 == t186 && (t180 == t187 && (t181 == t188 && (t182.toList == t189.toList))))) = false := by simpa using c8
      (try (have c8b1 : decide (t178 = t185 && (t179 == t186 && (t180 == t187 && (t181 == t188 && (t182.toList == t189.toList))))) = false := by simpa using c8))
      (try (have c8b2 : (t178 == t185 && (t179 == t186 && (t180 == t187 && (t181 == t188 && (t182.toList == t189.toList))))) = false := by simpa using c8))
      (try (have c8b3 : ¬ (t178 = t185 && (t179 == t186 && (t180 == t187 && (t181 == t188 && (t182.toList == t189.toList))))) := by simpa using c8))
      clear c8
      obtain rfl := Option.some.inj H
      go_enter Try.func3, Try.ntmps3
      go_wp2_with (first | ((with_reducible refine gate_callee (f := 7) rfl ?_); refine goesL_ (some 16) rfl rfl Try.func7 (by kernel_rfl) rfl #[.string a0, .int .i64 a1] rfl (by (try simp only [List.map_toArray, List.map_cons, List.map_nil]); first | done | rfl | (simp only [List.length_drop, List.length_take]; rfl)) ?_; (with_reducible refine (lex_Next.calls a0 a1 t178 t179 t180 t181 t182 t183 _ A6.out).mono ?_); rintro e w28 ⟨rfl, hb⟩; refine ⟨_, rfl, ?_⟩; have n0_ := Aside0.mk (below_step (by repeat (first | (with_reducible first | exact HB.out | apply below_alloc | apply pw_below_drewN | apply below_drew1) | exact HB.out)) hb); clear HB; have HB := n0_; clear n0_; (try clear hb); (try clear hb2); (try clear hk); (try clear hi)) | ((with_reducible refine gate_dst (N := 5) rfl ?_); refine box_event ?hg (N := 5) ?hd (cs := #[.int .i64 0, .int .i64 0, .int .i64 0, .int .i64 0, .string (⟨#[]⟩ : ByteArray)]) (t := 24) ?hr ?_; (case hd => rfl); (case hg => rfl); (case hr => first | (go_simp; done) | (go_simp; rfl)); intro gb184 hg w29 hbox hb; have n0_ := Aside0.mk (below_step (by repeat (first | (with_reducible first | exact HB.out | apply below_alloc | apply pw_below_drewN | apply below_drew1) | exact HB.out)) hb); have n1_ := Aside0.mk (hbox); have n2_ := Aside0.mk ((by rw [hg]; exact (below_size (by repeat (first | (with_reducible first | exact HB.out | apply below_alloc | apply pw_below_drewN | apply below_drew1) | exact HB.out))) : w.heap.size ≤ gb184)); have n3_ := Aside0.mk ((by rw [hg]; exact (below_size (by repeat (first | (with_reducible first | exact HB.out | apply below_alloc | apply pw_below_drewN | apply below_drew1) | exact HB.out))) : w.heap.size ≤ gb184)); clear HB; have HB := n0_; have BK184 := n1_; have GW184 := n2_; have GE184 := n3_; clear n0_ n1_ n2_ n3_; clear hb hbox hg; have hcz30_0 : w29.cell? ⟨gb184, 0, none⟩ = some (.int .i64 0) := (blk_cell BK184.out 0).trans rfl; have hcz30_1 : w29.cell? ⟨gb184, 1, none⟩ = some (.int .i64 0) := (blk_cell BK184.out 1).trans rfl; have hcz30_2 : w29.cell? ⟨gb184, 2, none⟩ = some (.int .i64 0) := (blk_cell BK184.out 2).trans rfl; have hcz30_3 : w29.cell? ⟨gb184, 3, none⟩ = some (.int .i64 0) := (blk_cell BK184.out 3).trans rfl; have hcz30_4 : w29.cell? ⟨gb184, 4, none⟩ = some (.string (⟨#[]⟩ : ByteArray)) := (blk_cell BK184.out 4).trans rfl; have hfz30_0 := blk_frozen BK184.out 0; have hfz30_1 := blk_frozen BK184.out 1; have hfz30_2 := blk_frozen BK184.out 2; have hfz30_3 := blk_frozen BK184.out 3; have hfz30_4 := blk_frozen BK184.out 4) | ((with_reducible refine gate_callee (f := 8) rfl ?_); refine goesL_ (some 22) rfl rfl Try.func8 (by kernel_rfl) rfl #[.string a0, .int .i64 a1] rfl (by (try simp only [List.map_toArray, List.map_cons, List.map_nil]); first | done | rfl | (simp only [List.length_drop, List.length_take]; rfl)) ?_; (with_reducible refine (sealringref06_Next.calls k a0 a1 t185 t186 t187 t188 t189 t190 _ A7.out).mono ?_); rintro e w31 ⟨rfl, hb⟩; refine ⟨_, rfl, ?_⟩; have n0_ := Aside0.mk (blk_below (g := gb184) (o := .cells #[.int .i64 t178, .int .i64 t179, .int .i64 t180, .int .i64 t181, .string t182] 24 (0, 0)) (by (with_reducible repeat (first | refine blk_drewN ?_ _ | refine blk_drew ?_ | refine blk_alloc ?_ _)); refine blk_put (cs := #[.int .i64 t178, .int .i64 t179, .int .i64 t180, .int .i64 t181, .string (⟨#[]⟩ : ByteArray)]) ?_ 4 _ rfl; (with_reducible repeat (first | refine blk_drewN ?_ _ | refine blk_drew ?_ | refine blk_alloc ?_ _)); refine blk_put (cs := #[.int .i64 t178, .int .i64 t179, .int .i64 t180, .int .i64 0, .string (⟨#[]⟩ : ByteArray)]) ?_ 3 _ rfl; (with_reducible repeat (first | refine blk_drewN ?_ _ | refine blk_drew ?_ | refine blk_alloc ?_ _)); refine blk_put (cs := #[.int .i64 t178, .int .i64 t179, .int .i64 0, .int .i64 0, .string (⟨#[]⟩ : ByteArray)]) ?_ 2 _ rfl; (with_reducible repeat (first | refine blk_drewN ?_ _ | refine blk_drew ?_ | refine blk_alloc ?_ _)); refine blk_put (cs := #[.int .i64 t178, .int .i64 0, .int .i64 0, .int .i64 0, .string (⟨#[]⟩ : ByteArray)]) ?_ 1 _ rfl; (with_reducible repeat (first | refine blk_drewN ?_ _ | refine blk_drew ?_ | refine blk_alloc ?_ _)); refine blk_put (cs := #[.int .i64 0, .int .i64 0, .int .i64 0, .int .i64 0, .string (⟨#[]⟩ : ByteArray)]) ?_ 0 _ rfl; (with_reducible repeat (first | refine blk_drewN ?_ _ | refine blk_drew ?_ | refine blk_alloc ?_ _)); exact BK184.out) hb); have n1_ := Aside0.mk (below_step (by repeat (first | (with_reducible first | exact HB.out | apply below_alloc | apply pw_below_drewN | apply below_drew1 | refine below_set ?_ GE184.out) | exact HB.out)) hb); clear BK184; clear HB; have BK184 := n0_; have HB := n1_; clear n0_ n1_; (try clear hb); (try clear hb2); (try clear hk); (try clear hi)) | ((with_reducible refine gate_dst (N := 7) rfl ?_); refine box_event ?hg (N := 7) ?hd (cs := #[.int .i64 0, .int .i64 0, .int .i64 0, .int .i64 0, .string (⟨#[]⟩ : ByteArray)]) (t := 24) ?hr ?_; (case hd => rfl); (case hg => rfl); (case hr => first | (go_simp; done) | (go_simp; rfl)); intro gb191 hg w32 hbox hb; have n0_ := Aside0.mk (blk_below (g := gb184) (o := .cells #[.int .i64 t178, .int .i64 t179, .int .i64 t180, .int .i64 t181, .string t182] 24 (0, 0)) (by (with_reducible repeat (first | refine blk_drewN ?_ _ | refine blk_drew ?_ | refine blk_alloc ?_ _)); exact BK184.out) hb); have n1_ := Aside0.mk (below_step (by repeat (first | (with_reducible first | exact HB.out | apply below_alloc | apply pw_below_drewN | apply below_drew1 | refine below_set ?_ GE184.out) | exact HB.out)) hb); have n2_ := Aside0.mk (hbox); have n3_ := Aside0.mk ((by rw [hg]; exact (below_size (by repeat (first | (with_reducible first | exact HB.out | apply below_alloc | apply pw_below_drewN | apply below_drew1 | refine below_set ?_ GE184.out) | exact HB.out))) : w.heap.size ≤ gb191)); have n4_ := Aside0.mk ((by rw [hg]; exact (below_size (by repeat (first | (with_reducible first | exact HB.out | apply below_alloc | apply pw_below_drewN | apply below_drew1 | refine below_set ?_ GE184.out) | exact HB.out))) : w.heap.size ≤ gb191)); have n5_ := Aside0.mk ((by rw [hg]; exact Nat.ne_of_lt (blk_lt (g := gb184) (o := .cells #[.int .i64 t178, .int .i64 t179, .int .i64 t180, .int .i64 t181, .string t182] 24 (0, 0)) (by (with_reducible repeat (first | refine blk_drewN ?_ _ | refine blk_drew ?_ | refine blk_alloc ?_ _)); exact BK184.out)) : gb184 ≠ gb191)); have n6_ := Aside0.mk ((by rw [hg]; exact Nat.ne_of_gt (blk_lt (g := gb184) (o := .cells #[.int .i64 t178, .int .i64 t179, .int .i64 t180, .int .i64 t181, .string t182] 24 (0, 0)) (by (with_reducible repeat (first | refine blk_drewN ?_ _ | refine blk_drew ?_ | refine blk_alloc ?_ _)); exact BK184.out)) : gb191 ≠ gb184)); clear BK184; clear HB; have BK184 := n0_; have HB := n1_; have BK191 := n2_; have GW191 := n3_; have GE191 := n4_; have NB184_191 := n5_; have NB191_184 := n6_; clear n0_ n1_ n2_ n3_ n4_ n5_ n6_; clear hb hbox hg; have hnb33 := NB191_184.out; have hnc33 := NB184_191.out; have hcz34_0 : w32.cell? ⟨gb191, 0, none⟩ = some (.int .i64 0) := (blk_cell BK191.out 0).trans rfl; have hcz34_1 : w32.cell? ⟨gb191, 1, none⟩ = some (.int .i64 0) := (blk_cell BK191.out 1).trans rfl; have hcz34_2 : w32.cell? ⟨gb191, 2, none⟩ = some (.int .i64 0) := (blk_cell BK191.out 2).trans rfl; have hcz34_3 : w32.cell? ⟨gb191, 3, none⟩ = some (.int .i64 0) := (blk_cell BK191.out 3).trans rfl; have hcz34_4 : w32.cell? ⟨gb191, 4, none⟩ = some (.string (⟨#[]⟩ : ByteArray)) := (blk_cell BK191.out 4).trans rfl; have hfz34_0 := blk_frozen BK191.out 0; have hfz34_1 := blk_frozen BK191.out 1; have hfz34_2 := blk_frozen BK191.out 2; have hfz34_3 := blk_frozen BK191.out 3; have hfz34_4 := blk_frozen BK191.out 4; have hcz35_0 : w32.cell? ⟨gb184, 0, none⟩ = some (.int .i64 t178) := (blk_cell BK184.out 0).trans rfl; have hcz35_1 : w32.cell? ⟨gb184, 1, none⟩ = some (.int .i64 t179) := (blk_cell BK184.out 1).trans rfl; have hcz35_2 : w32.cell? ⟨gb184, 2, none⟩ = some (.int .i64 t180) := (blk_cell BK184.out 2).trans rfl; have hcz35_3 : w32.cell? ⟨gb184, 3, none⟩ = some (.int .i64 t181) := (blk_cell BK184.out 3).trans rfl; have hcz35_4 : w32.cell? ⟨gb184, 4, none⟩ = some (.string t182) := (blk_cell BK184.out 4).trans rfl; have hfz35_0 := blk_frozen BK184.out 0; have hfz35_1 := blk_frozen BK184.out 1; have hfz35_2 := blk_frozen BK184.out 2; have hfz35_3 := blk_frozen BK184.out 3; have hfz35_4 := blk_frozen BK184.out 4))
      go_ret
      exact ⟨by first | rfl | (simp [errW_none, errW_some] <;> rfl) | (simp [*, errW_none, errW_some] <;> rfl), by repeat (first | (with_reducible first | exact HB.out | apply below_alloc | apply pw_below_drewN | apply below_drew1 | refine below_set ?_ GE184.out | refine below_set ?_ GE191.out) | exact HB.out)⟩
def sealringlaw06_LexNext.Pure : Prop := ∀ (a0 : ByteArray) (a1 : Int), a0.size ≤ 140737488351232 → (Lit.int .i64 a1).wf = true → ∃ k, sealringlaw06_LexNext.f k a0 a1 = some true
theorem sealringlaw06_LexNext.walk (P : sealringlaw06_LexNext.Pure) (a0 : ByteArray) (a1 : Int) (w : World) (w0 : a0.size ≤ 140737488351232) (w1 : (Lit.int .i64 a1).wf = true) :
    Calls Try.prog 3 #[.string a0, .int .i64 a1] w fun e w' => e = .returned (.bool true) ∧ Below w.heap.size w w' := by
  obtain ⟨k, h⟩ := P a0 a1 w0 w1
  refine (sealringlaw06_LexNext.calls k a0 a1 true w h).mono ?_
  rintro e w' ⟨rfl, hd⟩
  exact ⟨rfl, hd⟩
end Go.Proofs.Ytjdgjifacdnkgaa.X
end
section
namespace Go.Proofs.Ytjdgjifacdnkgaa.X
open Go.RowKit Go.Proofs.YtjdgjifacdnkgaaW.PrintWords Go.Proofs.YtjdgjifacdnkgaaW.PrintLast Go.Proofs.YtjdgjifacdnkgaaW.PrintMore
set_option linter.unusedVariables false
set_option linter.unusedSimpArgs false
def smallP (n : Int) : Int := if n = 34 ∨ n = 92 then n else if n = 8 then 98 else if n = 9 then 116 else if n = 10 then 110 else if n = 12 then 102 else if n = 13 then 114 else 0
theorem small_ev (n : Int) : Ev (fun k => sealringref04_small.f k n) (smallP n) := by
  unfold sealringref04_small.f
  by_cases c1 : n = 34
  · refine evPos c1 (Ev.step (f := fun _ => some 34) (fun k => ?_) ?_)
    · rw [sealringref04_small.j0, if_pos rfl, c1]; rfl
    · subst c1; exact Ev.now _
  · refine evNeg c1 ?_
    by_cases c2 : n = 92
    · refine Ev.step (f := fun _ => some 92) (fun k => ?_) ?_
      · rw [sealringref04_small.j0, if_pos (by simp [c2]), c2]; rfl
      · subst c2; exact Ev.now _
    · refine Ev.step (f := fun _ => some (smallP n)) (fun k => ?_) (Ev.now _)
      rw [sealringref04_small.j0, if_neg (by simp [c2])]
      unfold smallP
      rw [if_neg (show ¬ (n = 34 ∨ n = 92) by omega)]
      repeat' split
      all_goals rfl
def digN (c : Int) : Int := (hexD c).getD (-1)
theorem digit_ev (c : Int) (h0 : 0 ≤ c) (h1 : c ≤ 255) : Ev (fun k => sealringref04_digit.f k c) (digN c) := by
  unfold sealringref04_digit.f digN hexD
  have j1 : ∀ b : Bool, (b = true ↔ (97 ≤ c ∧ c ≤ 102)) → ¬ (48 ≤ c ∧ c ≤ 57) → Ev (fun k => sealringref04_digit.j1 k c b) ((if 48 ≤ c ∧ c ≤ 57 then some (c - 48) else if 97 ≤ c ∧ c ≤ 102 then some (c - 97 + 10) else if 65 ≤ c ∧ c ≤ 70 then some (c - 65 + 10) else none).getD (-1)) := by
    intro b hb hn
    rw [if_neg hn]
    by_cases d : 97 ≤ c ∧ c ≤ 102
    · rw [if_pos d]
      refine Ev.step (f := fun _ => some (c - 97 + 10)) (fun k => ?_) (Ev.now _)
      rw [sealringref04_digit.j1, if_pos (hb.2 d)]
      congr 1; omega
    · rw [if_neg d]
      refine Ev.step (f := fun _ => some ((if 65 ≤ c ∧ c ≤ 70 then some (c - 65 + 10) else none).getD (-1))) (fun k => ?_) (Ev.now _)
      rw [sealringref04_digit.j1, if_neg (fun h => d (hb.1 h))]
      by_cases e1 : c ≥ 65
      · rw [if_pos e1]
        by_cases e2 : c ≤ 70
        · rw [if_pos e2, if_pos ⟨e1, e2⟩]; show _ = some (c - 65 + 10); congr 1; omega
        · rw [if_neg e2, if_neg (fun h => e2 h.2)]; rfl
      · rw [if_neg e1, if_neg (fun h => e1 h.1)]; rfl
  have j0 : ∀ b : Bool, (b = true ↔ (48 ≤ c ∧ c ≤ 57)) → Ev (fun k => sealringref04_digit.j0 k c b) ((if 48 ≤ c ∧ c ≤ 57 then some (c - 48) else if 97 ≤ c ∧ c ≤ 102 then some (c - 97 + 10) else if 65 ≤ c ∧ c ≤ 70 then some (c - 65 + 10) else none).getD (-1)) := by
    intro b hb
    by_cases d : 48 ≤ c ∧ c ≤ 57
    · refine Ev.step (f := fun _ => some (c - 48)) (fun k => ?_) ?_
      · rw [sealringref04_digit.j0, if_pos (hb.2 d)]; congr 1; omega
      · rw [if_pos d]; exact Ev.now _
    · by_cases e : c ≥ 97
      · refine Ev.step (fun k => ?_) (j1 (decide (c ≤ 102)) (by rw [decide_eq_true_iff]; omega) d)
        rw [sealringref04_digit.j0, if_neg (fun h => d (hb.1 h)), if_pos e]
      · refine Ev.step (fun k => ?_) (j1 false (by simp; omega) d)
        rw [sealringref04_digit.j0, if_neg (fun h => d (hb.1 h)), if_neg e]
  by_cases c1 : c ≥ 48
  · exact evPos c1 (j0 _ (by rw [decide_eq_true_iff]; omega))
  · exact evNeg c1 (j0 _ (by simp; omega))
def exN : Except Int (Int × Int) → Int × Int | .ok (n, _) => (n, 0) | .error e => (0, e)
theorem four_err {t : ByteArray} : ∀ (k : Nat) (n a : Int) {e : Int}, fourP t k n a = .error e → e = 11 ∨ e = 5
  | 0, _, _, _, h => by cases h
  | k + 1, n, a, e, h => by
    simp only [fourP] at h
    split at h
    · split at h
      · cases h; exact .inl rfl
      · exact four_err k _ _ h
    · cases h; exact .inr rfl
section
variable (t : ByteArray)
theorem four_go (a : Nat) (hA : a ≤ 140737488351300) : ∀ (k j : Nat) (n : Int), k + j = 4 → 0 ≤ n → n < 16 ^ j → Ev (fun q => sealringref04_four.l0 q t (a : Int) n (j : Int)) (exN (fourP t k n ((a : Int) + (j : Int)))) := by
  intro k
  induction k with
  | zero =>
    intro j n hj h0 h1
    refine Ev.step (f := fun _ => some (n, 0)) (fun q => ?_) (Ev.now _)
    rw [sealringref04_four.l0, if_neg (by omega)]
  | succ k ih =>
    intro j n hj h0 h1
    have hn := pow16 (show j < 4 by omega) h1
    simp only [fourP]
    have hw : wrap64 ((a : Int) + (j : Int)) = (a : Int) + (j : Int) := w64 (by omega) (by omega)
    by_cases c2 : (a : Int) + (j : Int) < (t.size : Int)
    · rw [if_pos c2]
      have bb := bt_range t ((a : Int) + (j : Int))
      refine Ev.step (f := fun q => (sealringref04_digit.f q (bt t ((a : Int) + (j : Int)))).bind fun t221 => (if t221 < 0 then (some (0, 11)) else (sealringref04_four.l0 q t (a : Int) (wrap64 ((wrap64 (16 * n)) + t221)) (wrap64 ((j : Int) + 1))))) (fun q => ?_) ?_
      · rw [sealringref04_four.l0, if_pos (by omega), hw, if_neg (by omega), if_pos (by omega), if_pos c2]
      · refine Ev.bind (digit_ev _ bb.1 bb.2) ?_
        unfold digN
        cases hd : hexD (bt t ((a : Int) + (j : Int))) with
        | none => exact evPos (by decide) (Ev.now _)
        | some d =>
          have hr := hexD_range hd
          refine evNeg (by show ¬ d < 0; omega) ?_
          show Ev (fun q => sealringref04_four.l0 q t (a : Int) (wrap64 ((wrap64 (16 * n)) + d)) (wrap64 ((j : Int) + 1))) _
          rw [w64 (x := 16 * n) (by omega) (by omega), w64 (x := 16 * n + d) (by omega) (by omega), w64s j (by omega)]
          have h2 := ih (j + 1) (16 * n + d) (by omega) (by omega) (by rw [Int.pow_succ]; omega)
          rw [show (a : Int) + ((j + 1 : Nat) : Int) = (a : Int) + (j : Int) + 1 by omega] at h2
          exact h2
    · rw [if_neg c2]
      refine Ev.step (f := fun _ => some (0, 5)) (fun q => ?_) (Ev.now _)
      rw [sealringref04_four.l0, if_pos (by omega), hw, if_pos (by omega)]
theorem four_ev (a : Nat) (hA : a ≤ 140737488351300) : Ev (fun q => sealringref04_four.f q t (a : Int)) (exN (fourP t 4 0 (a : Int))) := by
  have h := four_go t a hA 4 0 0 (by omega) (by omega) (by simp)
  simp only [Int.natCast_zero, Int.add_zero] at h
  exact h
def pairM (t : ByteArray) (a : Int) : Except Int (Int × Int) :=
  if a < (t.size : Int) then (if bt t a = 92 then (if a + 1 < (t.size : Int) then (if bt t (a + 1) = 117 then (match fourP t 4 0 (a + 2) with | .error e => .error e | .ok (m, b) => if m < 56320 then .error 11 else if m > 57343 then .error 11 else .ok (m, b)) else .error 11) else .error 5) else .error 11) else .error 5
theorem pairP_M (n a : Int) : pairP t n a = match pairM t a with | .error e => .error e | .ok (m, b) => .ok (65536 + (n - 55296) * 1024 + (m - 56320), b) := by
  unfold pairP pairM mustP
  by_cases c1 : a < (t.size : Int)
  · rw [if_pos c1, if_pos c1]
    by_cases c2 : bt t a = 92
    · rw [if_pos c2, if_pos c2]
      simp only
      by_cases c3 : a + 1 < (t.size : Int)
      · rw [if_pos c3, if_pos c3]
        by_cases c4 : bt t (a + 1) = 117
        · rw [if_pos c4, if_pos c4]
          simp only
          rw [show a + 1 + 1 = a + 2 by omega]
          cases fourP t 4 0 (a + 2) with
          | error e => rfl
          | ok x =>
            obtain ⟨m, b⟩ := x
            simp only
            by_cases d1 : m < 56320
            · rw [if_pos d1, if_pos d1]
            · rw [if_neg d1, if_neg d1]
              by_cases d2 : m > 57343
              · rw [if_pos d2, if_pos d2]
              · rw [if_neg d2, if_neg d2]
        · rw [if_neg c4, if_neg c4]
      · rw [if_neg c3, if_neg c3]
    · rw [if_neg c2, if_neg c2]
  · rw [if_neg c1, if_neg c1]
theorem pair_ev (a : Nat) (hA : a ≤ 140737488351290) : Ev (fun q => sealringref04_pair.f q t (a : Int)) (exN (pairM t (a : Int))) := by
  unfold sealringref04_pair.f pairM
  have w1 : wrap64 ((a : Int) + 1) = (a : Int) + 1 := w64 (by omega) (by omega)
  have w2 : wrap64 ((a : Int) + 2) = ((a + 2 : Nat) : Int) := by rw [w64 (by omega) (by omega)]; rfl
  by_cases c1 : (a : Int) < (t.size : Int)
  · rw [if_pos c1]
    refine evNeg (by omega) (evPos (by omega) (evPos c1 ?_))
    by_cases c2 : bt t (a : Int) = 92
    · rw [if_pos c2]
      refine evPos c2 ?_
      rw [w1]
      by_cases c3 : (a : Int) + 1 < (t.size : Int)
      · rw [if_pos c3]
        refine evNeg (by omega) (evPos (by omega) (evPos c3 ?_))
        by_cases c4 : bt t ((a : Int) + 1) = 117
        · rw [if_pos c4]
          refine evPos c4 ?_
          rw [w2]
          refine Ev.bind (four_ev t (a + 2) (by omega)) ?_
          rw [show (a : Int) + 2 = ((a + 2 : Nat) : Int) by omega]
          cases hf : fourP t 4 0 ((a + 2 : Nat) : Int) with
          | error e =>
            exact evNeg (by have := four_err 4 _ _ hf; show ¬ e = 0; omega) (Ev.now _)
          | ok x =>
            obtain ⟨m, b⟩ := x
            refine evPos rfl ?_
            show Ev _ (exN (if m < 56320 then .error 11 else if m > 57343 then .error 11 else .ok (m, b)))
            by_cases d1 : m < 56320
            · rw [if_pos d1]; exact evPos d1 (Ev.now _)
            · rw [if_neg d1]
              refine evNeg d1 ?_
              by_cases d2 : m > 57343
              · rw [if_pos d2]; exact evPos d2 (Ev.now _)
              · rw [if_neg d2]; exact evNeg d2 (Ev.now _)
        · rw [if_neg c4]; exact evNeg c4 (Ev.now _)
      · rw [if_neg c3]; exact evPos (by omega) (Ev.now _)
    · rw [if_neg c2]; exact evNeg c2 (Ev.now _)
  · rw [if_neg c1]; exact evPos (by omega) (Ev.now _)
theorem pairM_err {a e : Int} (h : pairM t a = .error e) : e = 11 ∨ e = 5 := by
  unfold pairM at h
  repeat' split at h
  all_goals first | (cases h; done) | (cases h; omega) | skip
  all_goals (rename_i hf; cases h; exact four_err 4 _ _ hf)
theorem pairM_place {a m b : Int} (h : pairM t a = .ok (m, b)) (ha : 0 ≤ a) : b = a + 6 ∧ 56320 ≤ m ∧ m ≤ 57343 := by
  unfold pairM at h
  by_cases c1 : a < (t.size : Int)
  · rw [if_pos c1] at h
    by_cases c2 : bt t a = 92
    · rw [if_pos c2] at h
      by_cases c3 : a + 1 < (t.size : Int)
      · rw [if_pos c3] at h
        by_cases c4 : bt t (a + 1) = 117
        · rw [if_pos c4] at h
          cases hf : fourP t 4 0 (a + 2) with
          | error e => rw [hf] at h; cases h
          | ok x =>
            obtain ⟨m', b'⟩ := x
            rw [hf] at h
            simp only at h
            by_cases d1 : m' < 56320
            · rw [if_pos d1] at h; cases h
            · rw [if_neg d1] at h
              by_cases d2 : m' > 57343
              · rw [if_pos d2] at h; cases h
              · rw [if_neg d2] at h
                simp only [Except.ok.injEq, Prod.mk.injEq] at h
                obtain ⟨rfl, rfl⟩ := h
                by_cases c5 : a + 2 ≤ (t.size : Int)
                · have := (four_place 4 0 (a + 2) (by omega) c5 hf).2.2.1; omega
                · simp only [fourP] at hf
                  rw [if_neg (by omega)] at hf
                  cases hf
        · rw [if_neg c4] at h; cases h
      · rw [if_neg c3] at h; cases h
    · rw [if_neg c2] at h; cases h
  · rw [if_neg c1] at h; cases h
theorem small_none {c : Int} (h : shortP c = none) : ∀ n : Int, smallP n ≠ 0 → smallP n ≠ c := by
  intro n hn e
  subst e
  unfold smallP at hn h
  split at h
  · rename_i h1
    rcases h1 with rfl | rfl <;> exact absurd h (by decide)
  · repeat' split at h
    all_goals first | exact absurd h (by decide) | skip
    simp_all
theorem small_range (c v : Int) (h : shortP c = some v) (h47 : c ≠ 47) : 0 ≤ v ∧ v < 128 ∧ smallP v = c ∧ c ≠ 0 := by
  unfold shortP at h
  repeat' split at h
  all_goals first | (cases h; omega) | (cases h; subst_vars; refine ⟨by omega, by omega, by decide, by omega⟩) | cases h
theorem small_inj {n m c : Int} (hc : c ≠ 0) (h1 : smallP n = c) (h2 : smallP m = c) : n = m := by
  unfold smallP at h1 h2
  repeat' split at h1
  all_goals repeat' split at h2
  all_goals omega
def escN : Except Int (Int × Int) → Int → Int × Int × Int | .ok (v, b), a => (v, b - a, 0) | .error e, _ => (0, 0, e)
theorem escape_tail (a : Nat) (hA : a ≤ 140737488351232) (hs : (a : Int) < (t.size : Int)) (hsh : shortP (bt t (a : Int)) = none) : Ev (fun q => if bt t (a : Int) = 117 then ((sealringref04_four.f q t (wrap64 ((a : Int) + 1))).bind fun bt226 => (if bt226.2 = 0 then (if bt226.1 < 55296 then (sealringref04_escape.j1 q t (a : Int) bt226.1 true) else (sealringref04_escape.j1 q t (a : Int) bt226.1 (decide (bt226.1 > 57343)))) else (some (0, 0, bt226.2)))) else (some (0, 0, 11))) (escN (escP t (a : Int)) (a : Int)) := by
  unfold escP
  rw [if_pos hs, hsh]
  simp only
  by_cases c2 : bt t (a : Int) = 117
  · rw [if_pos c2]
    refine evPos c2 ?_
    have w1 : wrap64 ((a : Int) + 1) = ((a + 1 : Nat) : Int) := by rw [w64 (by omega) (by omega)]; rfl
    rw [w1, show (a : Int) + 1 = ((a + 1 : Nat) : Int) by omega]
    refine Ev.bind (four_ev t (a + 1) (by omega)) ?_
    cases hf : fourP t 4 0 ((a + 1 : Nat) : Int) with
    | error e => exact evNeg (by have := four_err 4 _ _ hf; show ¬ e = 0; omega) (Ev.now _)
    | ok x =>
      obtain ⟨n, b⟩ := x
      have hp := four_place 4 0 _ (by omega) (by omega) hf
      have hn := hp.2.2.2 (by omega)
      have hb := hp.2.2.1
      refine evPos rfl ?_
      show Ev (fun q => if n < 55296 then sealringref04_escape.j1 q t (a : Int) n true else sealringref04_escape.j1 q t (a : Int) n (decide (n > 57343))) _
      simp only
      by_cases d1 : n < 55296
      · rw [if_pos d1]
        refine evPos d1 (Ev.step (f := fun _ => some (n, 5, 0)) (fun q => ?_) ?_)
        · rw [sealringref04_escape.j1, if_pos rfl]
        · have : escN (.ok (n, b)) (a : Int) = (n, 5, 0) := by simp [escN]; omega
          rw [this]; exact Ev.now _
      · rw [if_neg d1]
        refine evNeg d1 ?_
        by_cases d2 : n > 57343
        · rw [if_pos d2]
          refine Ev.step (f := fun _ => some (n, 5, 0)) (fun q => ?_) ?_
          · rw [sealringref04_escape.j1, if_pos (decide_eq_true d2)]
          · have : escN (.ok (n, b)) (a : Int) = (n, 5, 0) := by simp [escN]; omega
            rw [this]; exact Ev.now _
        · rw [if_neg d2]
          by_cases d3 : n > 56319
          · rw [if_pos d3]
            refine Ev.step (f := fun _ => some (0, 0, 11)) (fun q => ?_) (Ev.now _)
            rw [sealringref04_escape.j1, if_neg (by simp; omega), if_pos d3]
          · rw [if_neg d3]
            have w5 : wrap64 ((a : Int) + 5) = ((a + 5 : Nat) : Int) := by rw [w64 (by omega) (by omega)]; rfl
            refine Ev.step (f := fun q => (sealringref04_pair.f q t ((a + 5 : Nat) : Int)).bind fun bt228 => (if bt228.2 = 0 then (some (wrap64 ((wrap64 ((wrap64 (65536 + (wrap64 (1024 * (wrap64 (n - 55296)))))) + bt228.1)) - 56320), 11, 0)) else (some (0, 0, bt228.2)))) (fun q => ?_) ?_
            · rw [sealringref04_escape.j1, if_neg (by simp; omega), if_neg d3, w5]
            · refine Ev.bind (pair_ev t (a + 5) (by omega)) ?_
              obtain rfl : b = ((a + 5 : Nat) : Int) := by omega
              rw [pairP_M]
              cases hm : pairM t ((a + 5 : Nat) : Int) with
              | error e => exact evNeg (by have := pairM_err t hm; show ¬ e = 0; omega) (Ev.now _)
              | ok x =>
                obtain ⟨m, b⟩ := x
                have hq := pairM_place t hm (by omega)
                refine evPos rfl ?_
                have : escN (.ok (65536 + (n - 55296) * 1024 + (m - 56320), b)) (a : Int) = (wrap64 ((wrap64 ((wrap64 (65536 + (wrap64 (1024 * (wrap64 (n - 55296)))))) + m)) - 56320), 11, 0) := by
                  rw [w64 (x := n - 55296) (by omega) (by omega), w64 (x := 1024 * (n - 55296)) (by omega) (by omega), w64 (x := 65536 + 1024 * (n - 55296)) (by omega) (by omega), w64 (x := 65536 + 1024 * (n - 55296) + m) (by omega) (by omega), w64 (by omega) (by omega)]
                  simp [escN]
                  omega
                rw [this]
                exact Ev.now _
  · rw [if_neg c2]
    exact evNeg c2 (Ev.now _)
theorem escape_go (a : Nat) (hA : a ≤ 140737488351232) (hs : (a : Int) < (t.size : Int)) (h47 : bt t (a : Int) ≠ 47) : ∀ (d i : Nat), d + i = 128 → (∀ v, shortP (bt t (a : Int)) = some v → (i : Int) ≤ v) → Ev (fun q => sealringref04_escape.l0 q t (a : Int) (bt t (a : Int)) (i : Int)) (escN (escP t (a : Int)) (a : Int)) := by
  intro d
  induction d with
  | zero =>
    intro i hi hv
    cases hsh : shortP (bt t (a : Int)) with
    | some v =>
      have := small_range _ _ hsh h47
      have := hv v hsh
      omega
    | none =>
      refine Ev.step (fun q => ?_) (escape_tail t a hA hs hsh)
      rw [sealringref04_escape.l0, if_neg (by omega)]
  | succ d ih =>
    intro i hi hv
    refine Ev.step (f := fun q => (sealringref04_small.f q (i : Int)).bind fun t224 => (if t224 = 0 then (sealringref04_escape.l0 q t (a : Int) (bt t (a : Int)) (wrap64 ((i : Int) + 1))) else ((sealringref04_small.f q (i : Int)).bind fun t225 => (if t225 = bt t (a : Int) then (some ((i : Int), 1, 0)) else (sealringref04_escape.l0 q t (a : Int) (bt t (a : Int)) (wrap64 ((i : Int) + 1))))))) (fun q => ?_) ?_
    · rw [sealringref04_escape.l0, if_pos (by omega)]
    · refine Ev.bind (small_ev (i : Int)) ?_
      have hnext : (smallP (i : Int) ≠ bt t (a : Int) ∨ smallP (i : Int) = 0) → Ev (fun q => sealringref04_escape.l0 q t (a : Int) (bt t (a : Int)) (wrap64 ((i : Int) + 1))) (escN (escP t (a : Int)) (a : Int)) := fun hne => by
        rw [w64s i (by omega)]
        refine ih (i + 1) (by omega) (fun v hsh => ?_)
        have h1 := hv v hsh
        have h2 := small_range _ _ hsh h47
        by_cases e : v = (i : Int)
        · subst e
          rcases hne with h | h
          · exact absurd h2.2.2.1 h
          · rw [h2.2.2.1] at h; exact absurd h h2.2.2.2
        · omega
      by_cases c1 : smallP (i : Int) = 0
      · exact evPos c1 (hnext (.inr c1))
      · refine evNeg c1 (Ev.bind (small_ev (i : Int)) ?_)
        by_cases c2 : smallP (i : Int) = bt t (a : Int)
        · refine evPos c2 ?_
          cases hsh : shortP (bt t (a : Int)) with
          | none => exact absurd c2 (small_none hsh _ c1)
          | some v =>
            have h2 := small_range _ _ hsh h47
            obtain rfl : (i : Int) = v := small_inj h2.2.2.2 c2 h2.2.2.1
            have : escN (escP t (a : Int)) (a : Int) = ((i : Int), 1, 0) := by
              unfold escP
              rw [if_pos hs, hsh]
              simp [escN]
              omega
            rw [this]
            exact Ev.now _
        · exact evNeg c2 (hnext (.inl c2))
theorem escape_ev (a : Nat) (hA : a ≤ 140737488351232) : Ev (fun q => sealringref04_escape.f q t (a : Int)) (escN (escP t (a : Int)) (a : Int)) := by
  unfold sealringref04_escape.f
  by_cases hs : (a : Int) < (t.size : Int)
  · refine evNeg (by omega) (evPos (by omega) (evPos hs ?_))
    by_cases c : bt t (a : Int) = 47
    · refine evPos c ?_
      have : escN (escP t (a : Int)) (a : Int) = (47, 1, 0) := by
        unfold escP
        rw [if_pos hs, c]
        have : shortP 47 = some 47 := by decide
        rw [this]
        simp [escN]
        omega
      rw [this]
      exact Ev.now _
    · exact evNeg c (escape_go t a hA hs c 128 0 (by omega) (fun v hv => (small_range _ _ hv c).1))
  · refine evPos (by omega) ?_
    unfold escP
    rw [if_neg hs]
    exact Ev.now _
end
end Go.Proofs.Ytjdgjifacdnkgaa.X
end
section
namespace Go.Proofs.Ytjdgjifacdnkgaa.X
open Go.RowKit Go.Proofs.YtjdgjifacdnkgaaW.PrintWords Go.Proofs.YtjdgjifacdnkgaaW.PrintLast Go.Proofs.YtjdgjifacdnkgaaW.PrintMore
set_option linter.unusedVariables false
set_option linter.unusedSimpArgs false
theorem son_app (a b : List Int) : strOfNums a ++ strOfNums b = strOfNums (a ++ b) := by
  apply ByteArray.ext
  simp [strOfNums, ByteArray.data_append]
theorem pairP_err {t : ByteArray} {n a e : Int} (h : pairP t n a = .error e) : e = 11 ∨ e = 5 := by
  rw [pairP_M] at h
  cases hm : pairM t a with
  | error e' => rw [hm] at h; cases h; exact pairM_err t hm
  | ok x => obtain ⟨m, b⟩ := x; rw [hm] at h; cases h
theorem escP_err {t : ByteArray} {a e : Int} (h : escP t a = .error e) : e = 11 ∨ e = 5 := by
  unfold escP at h
  split at h
  · split at h
    · cases h
    · split at h
      · split at h
        · rename_i hf; cases h; exact four_err 4 _ _ hf
        · split at h
          · cases h
          · split at h
            · cases h
            · split at h
              · cases h; exact .inl rfl
              · exact pairP_err h
      · cases h; exact .inl rfl
  · cases h; exact .inr rfl
def exT : Except Int (List Int × Int) → ByteArray × Int × Int | .ok (l, b) => (strOfNums l, b, 0) | .error e => (⟨#[]⟩, 0, e)
theorem unq_go (t : ByteArray) (ht : t.size ≤ 35184372080000) : ∀ (f a : Nat) (l : List Int), t.size < f + a → a ≤ t.size → l.length ≤ 4 * a → Ev (fun q => sealringref04_Unquote.l0 q t (strOfNums l) (a : Int)) (exT (textP t f (a : Int) l)) := by
  intro f
  induction f with
  | zero => intro a l h1 h2; omega
  | succ f ih =>
    intro a l h1 h2 h3
    have hs2 : t.size ≤ 140737488351232 := by omega
    simp only [textP]
    by_cases c1 : (a : Int) < (t.size : Int)
    · rw [if_pos c1]
      refine Ev.step (f := fun q => sealringref04_Unquote.j2 q t (strOfNums l) (a : Int) ((bt t (a : Int)) != 34)) (fun q => ?_) ?_
      · rw [sealringref04_Unquote.l0, if_pos c1, if_pos (by omega)]
      by_cases c2 : bt t (a : Int) = 34
      · rw [if_pos c2]
        refine Ev.step (f := fun q => some (strOfNums l, (a : Int) + 1, 0)) (fun q => ?_) (Ev.now _)
        rw [sealringref04_Unquote.j2, if_neg (by simp [c2]), if_neg (by omega), w64 (by omega) (by omega)]
      · rw [if_neg c2]
        refine Ev.step (f := fun k => if (bt t (a : Int)) < 32 then (some ((⟨#[]⟩ : ByteArray), 0, 6)) else ((sealringref03_Next.f k t (a : Int)).bind fun bt230 => (if (bt t (a : Int)) = 92 then ((sealringref04_escape.f k t (wrap64 ((a : Int) + 1))).bind fun bt232 => (sealringref04_Unquote.j3 k t (strOfNums l) (a : Int) bt232.1 (wrap64 (bt232.2.1 + 1)) bt232.2.2)) else (sealringref04_Unquote.j3 k t (strOfNums l) (a : Int) bt230.1 bt230.2 0)))) (fun q => ?_) ?_
        · rw [sealringref04_Unquote.j2, if_pos (by simp [c2]), if_pos (by omega), if_pos c1]
        have hgo : ∀ (v : Int) (b : Nat), isv v = true → a + 1 ≤ b → b ≤ t.size → (b : Int) - a ≤ 300 → Ev (fun k => sealringref04_Unquote.j3 k t (strOfNums l) (a : Int) v ((b : Int) - (a : Int)) 0) (exT (textP t f (b : Int) (l ++ formL v))) := fun v b hv hb1 hb2 hb3 => by
          have hr := isv_iff.1 hv
          have hl4 := (formL_le v).2
          have h9 := ih b (l ++ formL v) (by omega) hb2 (by rw [List.length_append]; omega)
          refine Ev.step (f := fun k => if (strOfNums l).size + (strOfNums (formL v)).size ≤ 9223372036854775807 then sealringref04_Unquote.l0 k t (strOfNums l ++ strOfNums (formL v)) (wrap64 ((a : Int) + ((b : Int) - (a : Int)))) else none) (fun k => ?_) ?_
          · rw [sealringref04_Unquote.j3, if_pos rfl, if_neg (by omega), Form_f v hr.1 (by omega)]
            rfl
          · have hsz : (strOfNums l).size + (strOfNums (formL v)).size ≤ 9223372036854775807 := by rw [son_size, son_size]; omega
            refine evPos hsz ?_
            rw [w64 (by omega) (by omega), show (a : Int) + ((b : Int) - (a : Int)) = (b : Int) by omega, son_app]
            exact h9
        by_cases c3 : bt t (a : Int) = 92
        · rw [if_pos c3]
          refine evNeg (by omega) (Ev.bind (rNext_ev t hs2 a) (evPos c3 ?_))
          rw [show wrap64 ((a : Int) + 1) = ((a + 1 : Nat) : Int) by rw [w64 (by omega) (by omega)]; rfl]
          refine Ev.bind (escape_ev t (a + 1) (by omega)) ?_
          rw [show (a : Int) + 1 = ((a + 1 : Nat) : Int) by omega]
          cases he : escP t ((a + 1 : Nat) : Int) with
          | error e =>
            have hne := escP_err he
            refine Ev.step (f := fun _ => some (⟨#[]⟩, 0, e)) (fun k => ?_) (Ev.now _)
            show sealringref04_Unquote.j3 (k + 1) t (strOfNums l) (a : Int) 0 (wrap64 (0 + 1)) e = _
            rw [sealringref04_Unquote.j3, if_neg (by omega)]
          | ok x =>
            obtain ⟨v, b⟩ := x
            have hp := esc_place (by omega) he
            have hb : b - ((a + 1 : Nat) : Int) ≤ 11 := by
              have h := he
              unfold escP at h
              split at h
              · split at h
                · cases h; omega
                · split at h
                  · split at h
                    · cases h
                    · rename_i hf
                      have hq := (four_place 4 0 _ (by omega) (by omega) hf).2.2.1
                      split at h
                      · cases h; omega
                      · split at h
                        · cases h; omega
                        · split at h
                          · cases h
                          · rw [pairP_M] at h
                            split at h
                            · cases h
                            · rename_i hm
                              have := (pairM_place t hm (by omega)).1
                              cases h
                              omega
                  · cases h
              · cases h
            obtain ⟨bn, rfl⟩ : ∃ bn : Nat, b = (bn : Int) := ⟨b.toNat, by omega⟩
            show Ev (fun k => sealringref04_Unquote.j3 k t (strOfNums l) (a : Int) v (wrap64 ((bn : Int) - ((a + 1 : Nat) : Int) + 1)) 0) _
            rw [w64 (by omega) (by omega), show (bn : Int) - ((a + 1 : Nat) : Int) + 1 = (bn : Int) - (a : Int) by omega]
            exact hgo v bn hp.1 (by omega) (by omega) (by omega)
        · rw [if_neg c3]
          by_cases c4 : bt t (a : Int) < 32
          · rw [if_pos c4]
            exact evPos c4 (Ev.now _)
          · rw [if_neg c4]
            refine evNeg c4 (Ev.bind (rNext_ev t hs2 a) (evNeg c3 ?_))
            rw [show ((a : Int)).toNat = a from rfl]
            cases hd : dec t a with
            | none =>
              refine Ev.step (f := fun _ => some (⟨#[]⟩, 0, 10)) (fun k => ?_) (Ev.now _)
              show sealringref04_Unquote.j3 (k + 1) t (strOfNums l) (a : Int) 0 0 0 = _
              rw [sealringref04_Unquote.j3, if_pos rfl, if_pos rfl]
            | some vn =>
              obtain ⟨v, n⟩ := vn
              have hdf := dec_form hd
              have hdr := dec_range hd
              have hv : isv v = true := by
                have := (isv_sz v).2
                by_cases hv : isv v = true
                · exact hv
                · exact absurd (this (by simpa using hv)) (by omega)
              have h9 := hgo v (a + n) hv (by omega) (by omega) (by omega)
              show Ev (fun k => sealringref04_Unquote.j3 k t (strOfNums l) (a : Int) v (n : Int) 0) (exT (textP t f ((a : Int) + (n : Int)) (l ++ formL v)))
              rw [show ((a + n : Nat) : Int) - (a : Int) = (n : Int) by omega, show ((a + n : Nat) : Int) = (a : Int) + (n : Int) by omega] at h9
              exact h9
    · rw [if_neg c1]
      refine Ev.step (f := fun q => sealringref04_Unquote.j2 q t (strOfNums l) (a : Int) false) (fun q => ?_) ?_
      · rw [sealringref04_Unquote.l0, if_neg c1]
      · refine Ev.step (f := fun _ => some (⟨#[]⟩, 0, 5)) (fun q => ?_) (Ev.now _)
        rw [sealringref04_Unquote.j2, if_neg (by simp), if_pos (by omega)]
theorem rUnquote_ev (t : ByteArray) (ht : t.size ≤ 35184372080000) (a : Int) : Ev (fun q => sealringref04_Unquote.f q t a) (unqP t a) := by
  unfold sealringref04_Unquote.f unqP
  by_cases c1 : a < 0
  · rw [if_pos c1]
    refine evPos c1 (Ev.step (f := fun _ => some (⟨#[]⟩, 0, 1)) (fun k => ?_) (Ev.now _))
    rw [sealringref04_Unquote.j0, if_pos rfl]
  · rw [if_neg c1]
    refine evNeg c1 ?_
    by_cases c2 : a > (t.size : Int)
    · rw [if_pos c2]
      refine Ev.step (f := fun _ => some (⟨#[]⟩, 0, 1)) (fun k => ?_) (Ev.now _)
      rw [sealringref04_Unquote.j0, if_pos (decide_eq_true c2)]
    · rw [if_neg c2]
      by_cases c3 : a = (t.size : Int)
      · rw [if_pos c3]
        refine Ev.step (f := fun _ => some (⟨#[]⟩, 0, 5)) (fun k => ?_) (Ev.now _)
        rw [sealringref04_Unquote.j0, if_neg (by simp; omega), if_pos c3]
      · rw [if_neg c3]
        by_cases c4 : bt t a = 34
        · rw [if_pos c4]
          obtain ⟨an, rfl⟩ : ∃ an : Nat, a = (an : Int) := ⟨a.toNat, by omega⟩
          have h := unq_go t ht (t.size + 1) (an + 1) [] (by omega) (by omega) (by simp)
          refine Ev.step (f := fun k => sealringref04_Unquote.l0 k t (⟨#[]⟩ : ByteArray) (wrap64 ((an : Int) + 1))) (fun k => ?_) ?_
          · rw [sealringref04_Unquote.j0, if_neg (by simp; omega), if_neg c3, if_pos (by omega), if_pos (by omega), if_pos c4]
          · rw [w64s an (by omega), show (an : Int) + 1 = ((an + 1 : Nat) : Int) by omega]
            cases hx : textP t (t.size + 1) ((an + 1 : Nat) : Int) [] with
            | error e => rw [hx] at h; exact h
            | ok x => rw [hx] at h; exact h
        · rw [if_neg c4]
          refine Ev.step (f := fun _ => some (⟨#[]⟩, 0, 6)) (fun k => ?_) (Ev.now _)
          rw [sealringref04_Unquote.j0, if_neg (by simp; omega), if_neg c3, if_pos (by omega), if_pos (by omega), if_neg c4]
end Go.Proofs.Ytjdgjifacdnkgaa.X
end
section
namespace Go.Proofs.Ytjdgjifacdnkgaa.X
open Go.RowKit Go.Proofs.YtjdgjifacdnkgaaW.PrintWords Go.Proofs.YtjdgjifacdnkgaaW.PrintLast
set_option linter.unusedVariables false
set_option linter.unusedSimpArgs false
theorem isDig_iff {s : ByteArray} {i : Int} : isDig s i = true ↔ i < (s.size : Int) ∧ 48 ≤ bt s i ∧ bt s i ≤ 57 := by simp [isDig]
theorem pow10_le {j k : Nat} (h : j ≤ k) : (10 : Int) ^ j ≤ 10 ^ k := by
  have := Nat.pow_le_pow_right (n := 10) (by omega) h
  exact_mod_cast this
def cntD (s : ByteArray) (b : Nat) : Nat → Nat
  | 0 => 0
  | k + 1 => if isDig s (b : Int) = true then 1 + cntD s (b + 1) k else 0
def valD (s : ByteArray) (b : Nat) : Nat → Int
  | 0 => 0
  | m + 1 => 10 * valD s b m + (bt s ((b + m : Nat) : Int) - 48)
theorem cntD_dig (s : ByteArray) : ∀ (k b j : Nat), j < cntD s b k → isDig s ((b + j : Nat) : Int) = true
  | 0, b, j, h => by simp [cntD] at h
  | k + 1, b, j, h => by
    unfold cntD at h
    by_cases c : isDig s (b : Int) = true
    · rw [if_pos c] at h
      cases j with
      | zero => exact c
      | succ j =>
        have := cntD_dig s k (b + 1) j (by omega)
        rwa [show b + 1 + j = b + (j + 1) from by omega] at this
    · rw [if_neg c] at h; omega
theorem cntD_end (s : ByteArray) : ∀ (k b : Nat), s.size < b + k → isDig s ((b + cntD s b k : Nat) : Int) = false
  | 0, b, h => by simp [isDig, cntD]; omega
  | k + 1, b, h => by
    unfold cntD
    by_cases c : isDig s (b : Int) = true
    · rw [if_pos c]
      have := cntD_end s k (b + 1) (by omega)
      rwa [show b + 1 + cntD s (b + 1) k = b + (1 + cntD s (b + 1) k) from by omega] at this
    · rw [if_neg c]; simpa using c
theorem cntD_le (s : ByteArray) : ∀ (k b : Nat), b ≤ s.size → b + cntD s b k ≤ s.size
  | 0, b, h => by simp [cntD]; exact h
  | k + 1, b, h => by
    unfold cntD
    by_cases c : isDig s (b : Int) = true
    · rw [if_pos c]
      have := (isDig_iff.1 c).1
      have := cntD_le s k (b + 1) (by omega)
      omega
    · rw [if_neg c]; omega
theorem valD_nn (s : ByteArray) (b : Nat) : ∀ m, (∀ j, j < m → isDig s ((b + j : Nat) : Int) = true) → 0 ≤ valD s b m
  | 0, _ => by simp [valD]
  | m + 1, h => by
    have h1 := valD_nn s b m (fun j hj => h j (by omega))
    have h2 := isDig_iff.1 (h m (by omega))
    simp only [valD]; omega
theorem valD_le (s : ByteArray) (b : Nat) : ∀ m, (∀ j, j < m → isDig s ((b + j : Nat) : Int) = true) → valD s b m < 10 ^ m
  | 0, _ => by simp [valD]
  | m + 1, h => by
    have h1 := valD_le s b m (fun j hj => h j (by omega))
    have h2 := isDig_iff.1 (h m (by omega))
    simp only [valD]
    rw [show (10 : Int) ^ (m + 1) = 10 * 10 ^ m from by rw [Int.pow_succ, Int.mul_comm]]
    omega
theorem valD_ge (s : ByteArray) (b : Nat) (hb : bt s (b : Int) ≠ 48) : ∀ m, (∀ j, j < m + 1 → isDig s ((b + j : Nat) : Int) = true) → 10 ^ m ≤ valD s b (m + 1)
  | 0, h => by
    have h2 := isDig_iff.1 (h 0 (by omega))
    simp only [valD, Nat.add_zero] at h2 ⊢
    simp
    omega
  | m + 1, h => by
    have h1 := valD_ge s b hb m (fun j hj => h j (by omega))
    have h2 := isDig_iff.1 (h (m + 1) (by omega))
    rw [valD]
    rw [show (10 : Int) ^ (m + 1) = 10 * 10 ^ m from by rw [Int.pow_succ, Int.mul_comm]]
    omega
theorem scanL_run (s : ByteArray) (b : Nat) : ∀ (d k j : Nat) (n : Int) (o : Bool), cntD s (b + j) k = d → s.size < b + j + k → (∀ q, q < j → isDig s ((b + q : Nat) : Int) = true) →
    (o = false → n = valD s b j ∧ n ≤ 9007199254740991) → (o = true → 0 ≤ n ∧ 9007199254740991 < valD s b j) →
    ∃ n', scanL s k n ((b + j : Nat) : Int) o = (n', ((b + (j + d) : Nat) : Int), decide (9007199254740991 < valD s b (j + d))) ∧ (valD s b (j + d) ≤ 9007199254740991 → n' = valD s b (j + d)) := by
  intro d
  induction d with
  | zero =>
    intro k j n o hd hk hq hf ht
    have hx := cntD_end s k (b + j) hk
    rw [hd] at hx
    have hval : (o = decide (9007199254740991 < valD s b j)) ∧ (valD s b j ≤ 9007199254740991 → n = valD s b j) := by
      cases o with
      | false => have := hf rfl; exact ⟨by symm; simp; omega, fun _ => this.1⟩
      | true => have := ht rfl; exact ⟨by symm; simp; omega, fun h => by omega⟩
    refine ⟨n, ?_, hval.2⟩
    cases k with
    | zero =>
      simp only [scanL]
      show (n, ((b + j : Nat) : Int), o) = (n, ((b + j : Nat) : Int), decide (9007199254740991 < valD s b j))
      rw [← hval.1]
    | succ k =>
      simp only [scanL]
      rw [if_neg (by rw [show ((b + j : Nat) : Int) = ((b + j + 0 : Nat) : Int) from rfl, hx]; simp)]
      show (n, ((b + j : Nat) : Int), o) = (n, ((b + j : Nat) : Int), decide (9007199254740991 < valD s b j))
      rw [← hval.1]
  | succ d ih =>
    intro k j n o hd hk hq hf ht
    cases k with
    | zero => simp [cntD] at hd
    | succ k =>
      unfold cntD at hd
      by_cases c : isDig s ((b + j : Nat) : Int) = true
      · rw [if_pos c] at hd
        have hc := isDig_iff.1 c
        have hq' : ∀ q, q < j + 1 → isDig s ((b + q : Nat) : Int) = true := by
          intro q hq2
          by_cases e : q = j
          · subst e; exact c
          · exact hq q (by omega)
        have hvn := valD_nn s b j hq
        have hstep : valD s b (j + 1) = 10 * valD s b j + (bt s ((b + j : Nat) : Int) - 48) := rfl
        have e1 : ((b + j : Nat) : Int) + 1 = ((b + (j + 1) : Nat) : Int) := by omega
        have e2 : j + (d + 1) = (j + 1) + d := by omega
        simp only [scanL]
        rw [if_pos c, e2]
        by_cases c2 : 10 * n + (bt s ((b + j : Nat) : Int) - 48) > 9007199254740991
        · rw [if_pos c2, e1]
          refine ih k (j + 1) _ true (by rw [show b + (j + 1) = b + j + 1 from by omega]; omega) (by omega) hq' (fun h => by cases h) (fun _ => ⟨by omega, ?_⟩)
          cases o with
          | false => have := hf rfl; omega
          | true => have := ht rfl; omega
        · rw [if_neg c2, e1]
          refine ih k (j + 1) _ o (by rw [show b + (j + 1) = b + j + 1 from by omega]; omega) (by omega) hq' (fun h => ?_) (fun h => ?_)
          · have := hf h; omega
          · have := ht h; omega
      · rw [if_neg c] at hd; omega
theorem scan_from (s : ByteArray) (a : Int) (b : Nat) (hb : b < s.size) (hd : isDig s (b : Int) = true) :
    ∃ D n', cntD s b (s.size - b + 1) = D ∧ 0 < D ∧ b + D ≤ s.size ∧ (∀ q, q < D → isDig s ((b + q : Nat) : Int) = true) ∧
      scanFrom s a (b : Int) = scanEnd s a (b : Int) n' ((b + D : Nat) : Int) (decide (9007199254740991 < valD s b D)) ∧ (valD s b D ≤ 9007199254740991 → n' = valD s b D) := by
  obtain ⟨n', h1, h2⟩ := scanL_run s b (cntD s b (s.size - b + 1)) (s.size - b + 1) 0 0 false rfl (by omega) (fun q hq => by omega) (fun _ => ⟨rfl, by omega⟩) (fun h => by cases h)
  refine ⟨cntD s b (s.size - b + 1), n', rfl, ?_, cntD_le s _ b (by omega), fun q hq => cntD_dig s _ b q hq, ?_, ?_⟩
  · unfold cntD; rw [if_pos hd]; omega
  · unfold scanFrom
    rw [if_neg (by omega), if_pos hd]
    have e : ((s.size : Int) - (b : Int)).toNat + 1 = s.size - b + 1 := by omega
    have e0 : ((b : Nat) : Int) = ((b + 0 : Nat) : Int) := rfl
    rw [e, show scanL s (s.size - b + 1) 0 (b : Int) false = _ from h1]
    simp only [Nat.zero_add]
  · simpa using h2
end Go.Proofs.Ytjdgjifacdnkgaa.X
end
section
namespace Go.Proofs.Ytjdgjifacdnkgaa.X
open Go.RowKit Go.Proofs.YtjdgjifacdnkgaaW.PrintWords Go.Proofs.YtjdgjifacdnkgaaW.PrintLast
set_option linter.unusedVariables false
set_option linter.unusedSimpArgs false
theorem digits_ev (s : ByteArray) (b : Nat) (hs : s.size ≤ 140737488351232) (hb : b ≤ s.size) : ∀ (d K j : Nat), cntD s (b + j) K = d → s.size < b + j + K → b + j ≤ s.size →
    Ev (fun k => sealringref05_digits.l0 k s (b : Int) (j : Int)) ((j + d : Nat) : Int) := by
  intro d
  induction d with
  | zero =>
    intro K j hd hk hj
    have hx := cntD_end s K (b + j) hk
    rw [hd, Nat.add_zero] at hx
    refine Ev.step (f := fun _ => some (j : Int)) (fun k => ?_) (Ev.now _)
    rw [sealringref05_digits.l0]
    have e : wrap64 ((b : Int) + (j : Int)) = ((b + j : Nat) : Int) := by unfold wrap64; omega
    rw [e]
    by_cases c1 : ((b + j : Nat) : Int) < (s.size : Int)
    · rw [if_pos c1, if_pos (by omega)]
      by_cases c2 : 48 ≤ bt s ((b + j : Nat) : Int)
      · rw [if_pos c2]
        by_cases c3 : bt s ((b + j : Nat) : Int) ≤ 57
        · have := isDig_iff.2 ⟨c1, c2, c3⟩
          rw [hx] at this; cases this
        · rw [if_neg c3]
      · rw [if_neg c2]
    · rw [if_neg c1]
  | succ d ih =>
    intro K j hd hk hj
    cases K with
    | zero => simp [cntD] at hd
    | succ K =>
      unfold cntD at hd
      by_cases c : isDig s ((b + j : Nat) : Int) = true
      · rw [if_pos c] at hd
        have hc := isDig_iff.1 c
        have := ih K (j + 1) (by rw [show b + (j + 1) = b + j + 1 from by omega]; omega) (by omega) (by omega)
        rw [show j + (d + 1) = j + 1 + d from by omega]
        refine Ev.step (fun k => ?_) this
        rw [sealringref05_digits.l0]
        have e : wrap64 ((b : Int) + (j : Int)) = ((b + j : Nat) : Int) := by unfold wrap64; omega
        rw [e, if_pos hc.1, if_pos (by omega), if_pos hc.2.1, if_pos hc.2.2, w64s j (by omega)]
      · rw [if_neg c] at hd; omega
theorem nsmall_ev (s : ByteArray) (b e : Nat) (hs : s.size ≤ 140737488351232) (hbe : b ≤ e) (he : e ≤ s.size) (hq : ∀ q, b + q < e → isDig s ((b + q : Nat) : Int) = true) (h16 : e - b ≤ 16) :
    ∀ (d j : Nat), b + j + d = e → Ev (fun k => sealringref05_small.l0 k (s.extract b e) (valD s b j) (j : Int)) (valD s b (e - b), decide (valD s b (e - b) ≤ 9007199254740991)) := by
  intro d
  induction d with
  | zero =>
    intro j hj
    have hj' : e - b = j := by omega
    refine Ev.step (f := fun _ => some _) (fun k => ?_) (Ev.now _)
    rw [sealringref05_small.l0, size_ext s b e he, if_neg (by omega), hj']
  | succ d ih =>
    intro j hj
    have hd := isDig_iff.1 (hq j (by omega))
    have hl := valD_le s b j (fun q hq2 => hq q (by omega))
    have hn := valD_nn s b j (fun q hq2 => hq q (by omega))
    have hp : (10 : Int) ^ j ≤ 10 ^ 15 := pow10_le (by omega)
    refine Ev.step (fun k => ?_) (ih (j + 1) (by omega))
    rw [sealringref05_small.l0, size_ext s b e he, if_pos (by omega), if_pos (by omega), bt_ext s b e j he (by omega), w64s j (by omega)]
    have e1 : wrap64 (10 * valD s b j) = 10 * valD s b j := by unfold wrap64; omega
    have e2 : (bt s ((b + j : Nat) : Int) - 48) % 256 = bt s ((b + j : Nat) : Int) - 48 := by omega
    have e3 : wrap64 (10 * valD s b j + (bt s ((b + j : Nat) : Int) - 48)) = valD s b (j + 1) := by
      simp only [valD]; unfold wrap64; omega
    rw [e1, e2, e3]
theorem j4_ev (s : ByteArray) (hs : s.size ≤ 140737488351232) (a : Int) (x7 : Int) (b D : Nat) (n' : Int) (h7 : x7 = 1 ∨ x7 = 0) (hba : ((b : Int) > a) ↔ x7 = 1) (hD : 0 < D) (hbD : b + D ≤ s.size)
    (hq : ∀ q, q < D → isDig s ((b + q : Nat) : Int) = true) (hn : valD s b D ≤ 9007199254740991 → n' = valD s b D) (h48 : ¬ (bt s (b : Int) = 48 ∧ (((b + D : Nat) : Int) > (b : Int) + 1 ∨ (b : Int) > a)))
    (fl : Bool) (hfl : fl = true ↔ (((b + D : Nat) : Int) < (s.size : Int) ∧ (bt s ((b + D : Nat) : Int) = 46 ∨ bt s ((b + D : Nat) : Int) = 101 ∨ bt s ((b + D : Nat) : Int) = 69))) :
    Ev (fun k => sealringref05_Scan.j4 k s x7 (b : Int) ((b + D : Nat) : Int) fl) (scanEnd s a (b : Int) n' ((b + D : Nat) : Int) (decide (9007199254740991 < valD s b D))) := by
  unfold scanEnd
  rw [if_neg h48]
  cases fl with
  | true =>
    rw [if_pos (hfl.1 rfl)]
    refine Ev.step (f := fun _ => some _) (fun k => ?_) (Ev.now _)
    rw [sealringref05_Scan.j4, if_pos rfl]
  | false =>
    rw [if_neg (fun h => by have := hfl.2 h; cases this)]
    refine Ev.step (f := fun k => (sealringref05_small.f k (s.extract b (b + D))).bind fun bt209 => (if bt209.2 = true then (if x7 = 1 then (some (wrap64 (-bt209.1), ((b + D : Nat) : Int), 0)) else (some (bt209.1, ((b + D : Nat) : Int), 0))) else (some (0, 0, 2)))) (fun k => ?_) ?_
    · rw [sealringref05_Scan.j4, if_neg (by simp), if_pos (by omega), if_pos (by omega), if_pos (by omega)]
      rfl
    · have hvn := valD_nn s b D hq
      by_cases h16 : D ≤ 16
      · have hsm := nsmall_ev s b (b + D) hs (by omega) hbD (fun q hq2 => hq q (by omega)) (by omega) D 0 (by omega)
        have hsf : Ev (fun k => sealringref05_small.f k (s.extract b (b + D))) (valD s b D, decide (valD s b D ≤ 9007199254740991)) := by
          unfold sealringref05_small.f
          rw [size_ext s b (b + D) hbD]
          refine evNeg (by omega) ?_
          have e : b + D - b = D := by omega
          rw [e] at hsm
          exact hsm
        refine Ev.bind hsf ?_
        by_cases ho : valD s b D ≤ 9007199254740991
        · refine evPos (by simpa using ho) ?_
          have hl := valD_le s b D hq
          have hw : wrap64 (-valD s b D) = -valD s b D := by unfold wrap64; omega
          rw [if_neg (show ¬ (decide (9007199254740991 < valD s b D) = true) by simpa using ho)]
          rcases h7 with h7 | h7
          · refine evPos h7 ?_
            rw [if_pos (hba.2 h7), hw, hn ho]
            exact Ev.now _
          · refine evNeg (by omega) ?_
            rw [if_neg (fun h => by have := hba.1 h; omega), hn ho]
            exact Ev.now _
        · refine evNeg (by simpa using ho) ?_
          rw [if_pos (show decide (9007199254740991 < valD s b D) = true by simp; omega)]
          exact Ev.now _
      · have hsf : Ev (fun k => sealringref05_small.f k (s.extract b (b + D))) (0, false) := by
          unfold sealringref05_small.f
          rw [size_ext s b (b + D) hbD]
          exact evPos (by omega) (Ev.now _)
        refine Ev.bind hsf (evNeg (by simp) ?_)
        have hne : bt s (b : Int) ≠ 48 := fun h => h48 ⟨h, .inl (by omega)⟩
        have hg := valD_ge s b hne (D - 1) (fun j hj => hq j (by omega))
        rw [show D - 1 + 1 = D from by omega] at hg
        have hp : (10 : Int) ^ 16 ≤ 10 ^ (D - 1) := pow10_le (by omega)
        rw [if_pos (by simp; omega)]
        exact Ev.now _
theorem j3_ev (s : ByteArray) (hs : s.size ≤ 140737488351232) (a : Int) (x7 : Int) (b D : Nat) (n' : Int) (h7 : x7 = 1 ∨ x7 = 0) (hba : ((b : Int) > a) ↔ x7 = 1) (hD : 0 < D) (hbD : b + D ≤ s.size)
    (hq : ∀ q, q < D → isDig s ((b + q : Nat) : Int) = true) (hn : valD s b D ≤ 9007199254740991 → n' = valD s b D)
    (fl : Bool) (hfl : fl = true ↔ (bt s (b : Int) = 48 ∧ (((b + D : Nat) : Int) > (b : Int) + 1 ∨ (b : Int) > a))) :
    Ev (fun k => sealringref05_Scan.j3 k s x7 (b : Int) ((b + D : Nat) : Int) fl) (scanEnd s a (b : Int) n' ((b + D : Nat) : Int) (decide (9007199254740991 < valD s b D))) := by
  cases fl with
  | true =>
    unfold scanEnd
    rw [if_pos (hfl.1 rfl)]
    refine Ev.step (f := fun _ => some _) (fun k => ?_) (Ev.now _)
    rw [sealringref05_Scan.j3, if_pos rfl]
  | false =>
    have h48 : ¬ (bt s (b : Int) = 48 ∧ (((b + D : Nat) : Int) > (b : Int) + 1 ∨ (b : Int) > a)) := fun h => by have := hfl.2 h; cases this
    by_cases c1 : ((b + D : Nat) : Int) < (s.size : Int)
    · by_cases c2 : bt s ((b + D : Nat) : Int) = 46
      · refine Ev.step (fun k => ?_) (j4_ev s hs a x7 b D n' h7 hba hD hbD hq hn h48 true ⟨fun _ => ⟨c1, .inl c2⟩, fun _ => rfl⟩)
        rw [sealringref05_Scan.j3, if_neg (by simp), if_pos c1, if_pos (by omega), if_pos c2]
      · by_cases c3 : bt s ((b + D : Nat) : Int) = 101
        · refine Ev.step (fun k => ?_) (j4_ev s hs a x7 b D n' h7 hba hD hbD hq hn h48 true ⟨fun _ => ⟨c1, .inr (.inl c3)⟩, fun _ => rfl⟩)
          rw [sealringref05_Scan.j3, if_neg (by simp), if_pos c1, if_pos (by omega), if_neg c2, if_pos c3]
        · refine Ev.step (fun k => ?_) (j4_ev s hs a x7 b D n' h7 hba hD hbD hq hn h48 (bt s ((b + D : Nat) : Int) == 69) (by rw [beq_iff_eq]; exact ⟨fun h => ⟨c1, .inr (.inr h)⟩, fun h => h.2.elim (fun e => absurd e c2) (fun e => e.elim (fun e => absurd e c3) id)⟩))
          rw [sealringref05_Scan.j3, if_neg (by simp), if_pos c1, if_pos (by omega), if_neg c2, if_neg c3]
    · refine Ev.step (fun k => ?_) (j4_ev s hs a x7 b D n' h7 hba hD hbD hq hn h48 false ⟨fun h => (by cases h), fun h => absurd h.1 c1⟩)
      rw [sealringref05_Scan.j3, if_neg (by simp), if_neg c1]
theorem j2_ev (s : ByteArray) (hs : s.size ≤ 140737488351232) (a : Int) (x7 : Int) (b : Nat) (h7 : x7 = 1 ∨ x7 = 0) (hb : (b : Int) = a + x7) (hbs : b ≤ s.size) :
    Ev (fun k => sealringref05_Scan.j2 k s a x7) (scanFrom s a (b : Int)) := by
  have hw : wrap64 (a + x7) = (b : Int) := by rw [← hb]; unfold wrap64; omega
  by_cases c1 : (b : Int) = (s.size : Int)
  · unfold scanFrom
    rw [if_pos c1]
    refine Ev.step (f := fun _ => some _) (fun k => ?_) (Ev.now _)
    rw [sealringref05_Scan.j2, hw, if_pos c1]
  · have hdg := digits_ev s b hs hbs (cntD s b (s.size - b + 1)) (s.size - b + 1) 0 rfl (by omega) (by omega)
    rw [Nat.zero_add] at hdg
    by_cases c2 : isDig s (b : Int) = true
    · obtain ⟨D, n', h1, h2, h3, h4, h5, h6⟩ := scan_from s a b (by omega) c2
      rw [h5]
      rw [h1] at hdg
      have hwd : wrap64 ((b : Int) + (D : Int)) = ((b + D : Nat) : Int) := by unfold wrap64; omega
      have hba : ((b : Int) > a) ↔ x7 = 1 := by rcases h7 with h | h <;> omega
      refine Ev.step (fun k => ?g2) (Ev.bind (f := ?f2) hdg ?h2)
      case g2 =>
        rw [sealringref05_Scan.j2, hw, if_neg c1]
        rfl
      case h2 =>
        refine evNeg (by omega) (evPos (by omega) (evPos (by omega) ?_))
        rw [hwd]
        by_cases c3 : bt s (b : Int) = 48
        · refine evPos c3 ?_
          by_cases c4 : (D : Int) > 1
          · exact evPos c4 (j3_ev s hs a x7 b D n' h7 hba h2 h3 h4 h6 true ⟨fun _ => ⟨c3, .inl (by omega)⟩, fun _ => rfl⟩)
          · refine evNeg c4 (j3_ev s hs a x7 b D n' h7 hba h2 h3 h4 h6 (x7 == 1) ?_)
            rw [beq_iff_eq, ← hba]
            exact ⟨fun h => ⟨c3, .inr h⟩, fun h => h.2.elim (fun e => by omega) id⟩
        · exact evNeg c3 (j3_ev s hs a x7 b D n' h7 hba h2 h3 h4 h6 false ⟨fun h => (by cases h), fun h => absurd h.1 c3⟩)
    · have hz : cntD s b (s.size - b + 1) = 0 := by unfold cntD; rw [if_neg c2]
      rw [hz] at hdg
      unfold scanFrom
      rw [if_neg c1, if_neg c2]
      refine Ev.step (fun k => ?g3) (Ev.bind (f := ?f3) hdg ?h3)
      case g3 =>
        rw [sealringref05_Scan.j2, hw, if_neg c1]
        rfl
      case h3 => exact evPos rfl (Ev.now _)
theorem refScan_ev (s : ByteArray) (hs : s.size ≤ 140737488351232) (a : Int) : Ev (fun k => sealringref05_Scan.f k s a) (numScan s a) := by
  unfold sealringref05_Scan.f numScan
  by_cases c1 : a < 0
  · rw [if_pos c1]
    refine evPos c1 (Ev.step (f := fun _ => some _) (fun k => ?_) (Ev.now _))
    rw [sealringref05_Scan.j0, if_pos rfl]
  rw [if_neg c1]
  refine evNeg c1 ?_
  by_cases c2 : a > (s.size : Int)
  · rw [if_pos c2]
    refine Ev.step (f := fun _ => some _) (fun k => ?_) (Ev.now _)
    rw [sealringref05_Scan.j0, if_pos (by simpa using c2)]
  rw [if_neg c2]
  have hd : decide (a > (s.size : Int)) = false := by simpa using c2
  simp only [hd]
  obtain ⟨b, rfl⟩ : ∃ b : Nat, a = (b : Int) := ⟨a.toNat, by omega⟩
  by_cases c3 : (b : Int) < (s.size : Int)
  · by_cases c4 : bt s (b : Int) = 45
    · rw [if_pos ⟨c3, c4⟩]
      have h2 := j2_ev s hs (b : Int) 1 (b + 1) (.inl rfl) (by omega) (by omega)
      refine Ev.step (fun k => ?_) (Ev.step (g := fun k => sealringref05_Scan.j1 k s (b : Int) 0 true) (fun k => ?_) h2)
      · rw [sealringref05_Scan.j0, if_neg (by simp), if_pos c3, if_pos (by omega)]
        rw [c4]; rfl
      · rw [sealringref05_Scan.j1, if_pos rfl]
    · rw [if_neg (fun h => c4 h.2)]
      have h2 := j2_ev s hs (b : Int) 0 b (.inr rfl) (by omega) (by omega)
      refine Ev.step (fun k => ?_) (Ev.step (g := fun k => sealringref05_Scan.j1 k s (b : Int) 0 false) (fun k => ?_) h2)
      · rw [sealringref05_Scan.j0, if_neg (by simp), if_pos c3, if_pos (by omega)]
        rw [show (bt s (b : Int) == 45) = false from by simpa using c4]
      · rw [sealringref05_Scan.j1, if_neg (by simp)]
  · rw [if_neg (fun h => c3 h.1)]
    have h2 := j2_ev s hs (b : Int) 0 b (.inr rfl) (by omega) (by omega)
    refine Ev.step (fun k => ?_) (Ev.step (g := fun k => sealringref05_Scan.j1 k s (b : Int) 0 false) (fun k => ?_) h2)
    · rw [sealringref05_Scan.j0, if_neg (by simp), if_neg c3]
    · rw [sealringref05_Scan.j1, if_neg (by simp)]
end Go.Proofs.Ytjdgjifacdnkgaa.X
end
