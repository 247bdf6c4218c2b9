import Derived.Test.YtinenogcokjpjaaDoorX0
import Derived.Test.YtinenogcokjpjaaDoorHLib
namespace Go.Proofs.YtinenogcokjpjaaDoor.X
open Go.RowKit Go.Proofs.YtinenogcokjpjaaDoorW.PrintWords Go.Proofs.YtinenogcokjpjaaDoorW.PrintLast Go.Proofs.YtinenogcokjpjaaDoorW.PrintMore
set_option linter.unusedVariables false
set_option linter.unusedSimpArgs false
/-- Does a digit stand at a place? -/
def isDig (s : ByteArray) (i : Int) : Bool := decide (i < (s.size : Int)) && (decide (48 ≤ bt s i) && decide (bt s i ≤ 57))
def scanL (s : ByteArray) : Nat → Int → Int → Bool → Int × Int × Bool
  | 0, n, i, o => (n, i, o)
  | k + 1, n, i, o => if isDig s i = true then (if 10 * n + (bt s i - 48) > 9007199254740991 then scanL s k 9007199254740991 (i + 1) true else scanL s k (10 * n + (bt s i - 48)) (i + 1) o) else (n, i, o)
def scanEnd (s : ByteArray) (a b n i : Int) (o : Bool) : Int × Int × Int :=
  if bt s b = 48 ∧ (i > b + 1 ∨ b > a) then (0, 0, 12) else if i < (s.size : Int) ∧ (bt s i = 46 ∨ bt s i = 101 ∨ bt s i = 69) then (0, 0, 12) else if o = true then (0, 0, 2) else if b > a then (-n, i, 0) else (n, i, 0)
def scanFrom (s : ByteArray) (a b : Int) : Int × Int × Int :=
  if b = (s.size : Int) then (0, 0, 5) else if isDig s b = true then scanEnd s a b (scanL s (((s.size : Int) - b).toNat + 1) 0 b false).1 (scanL s (((s.size : Int) - b).toNat + 1) 0 b false).2.1 (scanL s (((s.size : Int) - b).toNat + 1) 0 b false).2.2 else (0, 0, 6)
def numScan (s : ByteArray) (a : Int) : Int × Int × Int :=
  if a < 0 then (0, 0, 1) else if a > (s.size : Int) then (0, 0, 1) else if a < (s.size : Int) ∧ bt s a = 45 then scanFrom s a (a + 1) else scanFrom s a a
def num_Scan.f (a0 : ByteArray) (a1 : Int) : Option (Int × Int × Int) := if a0.size ≤ 140737488351232 then some (numScan a0 a1) else none

set_option maxHeartbeats 400000 in
set_option maxRecDepth 100000 in
theorem scan_digit (s : ByteArray) (i : Int) (h0 : 0 ≤ i) (hs : s.size ≤ 140737488351232) (p : Addr) (w : World) (hp : w.cell? p = some (.string s)) (b : Bool) (hb : isDig s i = b) :
    Calls Tryd.prog 12 #[.int .i64 i, .pointer (some p)] w fun e w' => e = .returned (.bool b) ∧ w = w' := by
  have hx := bt_at s i
  by_cases c1 : i < (s.size : Int)
  · by_cases c2 : 48 ≤ bt s i
    · by_cases c3 : bt s i ≤ 57
      · obtain rfl : true = b := by rw [← hb]; simp [isDig, c1, c2, c3]
        clear hb
        go_enter Tryd.func12, Tryd.ntmps12
        go_wp2
        go_ret
        exact ⟨rfl, rfl⟩
      · obtain rfl : false = b := by rw [← hb]; simp [isDig, c1, c2, c3]
        clear hb
        go_enter Tryd.func12, Tryd.ntmps12
        go_wp2
        go_ret
        exact ⟨rfl, rfl⟩
    · obtain rfl : false = b := by rw [← hb]; simp [isDig, c1, c2]
      clear hb
      go_enter Tryd.func12, Tryd.ntmps12
      go_wp2
      go_ret
      exact ⟨rfl, rfl⟩
  · obtain rfl : false = b := by rw [← hb]; simp [isDig, c1]
    clear hb
    go_enter Tryd.func12, Tryd.ntmps12
    go_wp2
    go_ret
    exact ⟨rfl, rfl⟩
set_option maxHeartbeats 8000000 in
set_option maxRecDepth 100000 in
theorem num_Scan.calls (a0 : ByteArray) (a1 : Int) (r1 r2 r3 : Int) (w : World) (h : num_Scan.f a0 a1 = some (r1, r2, r3)) :
    Calls Tryd.prog 9 #[.string a0, .int .i64 a1] w fun e w' => e = .returned (.tuple #[.int .i64 r1, .int .i64 r2, .int .i64 r3]) ∧ Below w.heap.size w w' := by
  unfold num_Scan.f at h
  by_cases hs : a0.size ≤ 140737488351232
  case neg => rw [if_neg hs] at h; cases h
  rw [if_pos hs] at h
  have H : numScan a0 a1 = (r1, r2, r3) := Option.some.inj h
  clear h
  unfold numScan at H
  by_cases c1 : a1 < 0
  · rw [if_pos c1] at H
    simp only [Prod.mk.injEq] at H
    obtain ⟨rfl, rfl, rfl⟩ := H
    go_enter Tryd.func9, Tryd.ntmps9
    go_wp2
    go_step3
    go_wp2
    rw [Exit.noGoto_ret]
    go_ret3
    exact ⟨rfl, below_alloc (Below.refl _ _) _⟩
  rw [if_neg c1] at H
  by_cases c2 : a1 > (a0.size : Int)
  · rw [if_pos c2] at H
    simp only [Prod.mk.injEq] at H
    obtain ⟨rfl, rfl, rfl⟩ := H
    go_enter Tryd.func9, Tryd.ntmps9
    go_wp2
    go_step3
    go_wp2
    rw [Exit.noGoto_ret]
    go_ret3
    exact ⟨rfl, below_alloc (Below.refl _ _) _⟩
  rw [if_neg c2] at H
  obtain ⟨b, hb⟩ : ∃ b, b = (if a1 < (a0.size : Int) ∧ bt a0 a1 = 45 then a1 + 1 else a1) := ⟨_, rfl⟩
  have H' : Aside0 (scanFrom a0 a1 b = (r1, r2, r3)) := ⟨by rw [hb]; split at H <;> (rename_i hc; first | rw [if_pos hc] | rw [if_neg hc]) <;> exact H⟩
  clear H
  have hb1 : a1 ≤ b ∧ b ≤ (a0.size : Int) ∧ b ≤ a1 + 1 := by
    rw [hb]; split <;> rename_i hc
    · have := hc.1; omega
    · omega
  have hx := bt_at a0 a1
  have hxb := bt_at a0 b
  by_cases c3 : a1 < (a0.size : Int) ∧ bt a0 a1 = 45
  · rw [if_pos c3] at hb
    obtain ⟨c3, c4⟩ := c3
    have c4b : (bt a0 a1 == 45) = true := beq_iff_eq.mpr c4
    clear c4
    subst hb
    by_cases c5 : a1 + 1 = (a0.size : Int)
    · have c5b : (a1 + 1 == (a0.size : Int)) = true := beq_iff_eq.mpr c5
      have H := H'.out
      rw [scanFrom, if_pos c5] at H
      clear H'
      simp only [Prod.mk.injEq] at H
      obtain ⟨rfl, rfl, rfl⟩ := H
      clear c5 hxb
      go_enter Tryd.func9, Tryd.ntmps9
      go_wp2
      refine wp_scope_fwd 0 (by rfl) ?_
      go_wp2
      go_step3
      refine exFwd_goto ?_
      go_wp2
      rw [Exit.noGoto_ret]
      go_ret3
      exact ⟨rfl, below_alloc (Below.refl _ _) _⟩
    have c5b : (a1 + 1 == (a0.size : Int)) = false := beq_eq_false_iff_ne.mpr c5
    have c5l : a1 + 1 < (a0.size : Int) := by omega
    have H := H'.out
    rw [scanFrom, if_neg c5] at H
    clear H' c5
    by_cases c6 : isDig a0 (a1 + 1) = true
    case neg =>
      rw [if_neg c6] at H
      simp only [Prod.mk.injEq] at H
      obtain ⟨rfl, rfl, rfl⟩ := H
      have C6 := Aside0.mk (show isDig a0 (a1 + 1) = false by simpa using c6)
      clear c6
      go_enter Tryd.func9, Tryd.ntmps9
      go_wp2
      refine wp_scope_fwd 0 (by rfl) ?_
      go_wp2_with (go_at_call 12; refine (scan_digit a0 (a1 + 1) (by omega) hs _ _ (by first | assumption | simp) false C6.out).mono ?_; rintro e w' ⟨rfl, rfl⟩)
      go_step3
      refine exFwd_goto ?_
      go_wp2
      rw [Exit.noGoto_ret]
      go_ret3
      exact ⟨rfl, below_alloc (Below.refl _ _) _⟩
    rw [if_pos c6] at H
    have C6 := Aside0.mk c6
    clear c6
    obtain ⟨K, hK⟩ : ∃ K, K = ((a0.size : Int) - (a1 + 1)).toNat + 1 := ⟨_, rfl⟩
    rw [← hK] at H
    obtain ⟨R, hR⟩ : ∃ R, R = scanL a0 K 0 (a1 + 1) false := ⟨_, rfl⟩
    rw [← hR] at H
    have HE0 := Aside0.mk H
    have HR := Aside0.mk hR.symm
    have HK0 := Aside0.mk (show (a0.size : Int) - (a1 + 1) < K by omega)
    clear H hR hK
    go_enter Tryd.func9, Tryd.ntmps9
    go_wp2
    refine wp_scope_fwd 0 (by rfl) ?_
    go_wp2_with (go_at_call 12; refine (scan_digit a0 (a1 + 1) (by omega) hs _ _ (by first | assumption | simp) true C6.out).mono ?_; rintro e w' ⟨rfl, rfl⟩)
    go_step3
    go_wp2_with fail
    go_loopg [4, 5, 9] K (fun kq v4 v5 v9 w' => ∃ (n i : Int) (o : Bool), v4 = .int .i64 n ∧ v5 = .int .i64 i ∧ v9 = .bool o ∧ Aside0 (scanL a0 kq n i o = R) ∧ Aside0 ((a0.size : Int) - i < kq) ∧ ((0 ≤ n ∧ n ≤ 9007199254740991) ∧ a1 + 1 ≤ i ∧ i ≤ (a0.size : Int)) ∧ w' = (w.alloc (Obj.cells #[Value.string a0] 9)))
    case atStart => exact ⟨0, a1 + 1, false, rfl, rfl, rfl, HR, HK0, ⟨⟨by omega, by omega⟩, by omega, by omega⟩, rfl⟩
    case round =>
      clear HR HK0 C6
      obtain ⟨n, i, o, rfl, rfl, rfl, HA, HK, hb, rfl⟩ := hrel
      have hxi := bt_at a0 i
      cases gk with
      | zero => exact absurd HK.out (by omega)
      | succ k1 =>
        have H := HA.out
        clear HA
        rw [scanL] at H
        by_cases c7 : isDig a0 i = true
        · rw [if_pos c7] at H
          have hd : i < (a0.size : Int) ∧ 48 ≤ bt a0 i ∧ bt a0 i ≤ 57 := by simpa [isDig] using c7
          have C7 := Aside0.mk c7
          clear c7
          by_cases c8 : 10 * n + (bt a0 i - 48) > 9007199254740991
          · rw [if_pos c8] at H
            have H' := Aside0.mk H
            clear H HE0
            go_wp2_with (go_at_call 12; refine (scan_digit a0 i (by omega) hs _ _ (by first | assumption | simp) true C7.out).mono ?_; rintro e w' ⟨rfl, rfl⟩)
            go_roundg k1
            case measure => omega
            case rel => exact ⟨_, _, _, by go_num, by go_num, rfl, H', ⟨by have := HK.out; omega⟩, ⟨⟨by omega, by omega⟩, by omega, by omega⟩, rfl⟩
          · rw [if_neg c8] at H
            have H' := Aside0.mk H
            clear H HE0
            go_wp2_with (go_at_call 12; refine (scan_digit a0 i (by omega) hs _ _ (by first | assumption | simp) true C7.out).mono ?_; rintro e w' ⟨rfl, rfl⟩)
            go_roundg k1
            case measure => omega
            case rel => exact ⟨_, _, _, by go_num, by go_num, rfl, H', ⟨by have := HK.out; omega⟩, ⟨⟨by omega, by omega⟩, by omega, by omega⟩, rfl⟩
        · rw [if_neg c7] at H
          have C7 := Aside0.mk (show isDig a0 i = false by simpa using c7)
          subst H
          have HE : Aside0 (scanEnd a0 a1 (a1 + 1) n i o = (r1, r2, r3)) := HE0
          clear HE0 HK c7
          have C7' := C7
          clear C7
          have hnn : 0 ≤ n ∧ n ≤ 9007199254740991 := hb.1
          by_cases q1 : bt a0 (a1 + 1) = 48
          · have q1b : (bt a0 (a1 + 1) == 48) = true := beq_iff_eq.mpr q1
            by_cases q2 : i > a1 + 1 + 1
            · skip
              have H := HE.out
              clear HE
              rw [show scanEnd a0 a1 (a1 + 1) n i o = (0, 0, 12) from by unfold scanEnd; simp [q1, q2, show a1 < a1 + 1 from by omega]] at H
              simp only [Prod.mk.injEq] at H
              obtain ⟨rfl, rfl, rfl⟩ := H
              go_wp2_with (go_at_call 12; refine (scan_digit a0 i (by omega) hs _ _ (by first | assumption | simp) false C7'.out).mono ?_; rintro e w' ⟨rfl, rfl⟩)
              go_step3
              refine exFwd_goto ?_
              go_wp2
              rw [Exit.noGoto_ret]
              go_ret3
              exact ⟨rfl, below_alloc (Below.refl _ _) _⟩
            · skip
              have H := HE.out
              clear HE
              rw [show scanEnd a0 a1 (a1 + 1) n i o = (0, 0, 12) from by unfold scanEnd; simp [q1, q2, show a1 < a1 + 1 from by omega]] at H
              simp only [Prod.mk.injEq] at H
              obtain ⟨rfl, rfl, rfl⟩ := H
              go_wp2_with (go_at_call 12; refine (scan_digit a0 i (by omega) hs _ _ (by first | assumption | simp) false C7'.out).mono ?_; rintro e w' ⟨rfl, rfl⟩)
              go_step3
              refine exFwd_goto ?_
              go_wp2
              rw [Exit.noGoto_ret]
              go_ret3
              exact ⟨rfl, below_alloc (Below.refl _ _) _⟩
          · have q1b : (bt a0 (a1 + 1) == 48) = false := beq_eq_false_iff_ne.mpr q1
            by_cases q4 : i < (a0.size : Int)
            · have hxi := bt_at a0 i
              by_cases q5 : bt a0 i = 46
              · have q5b : (bt a0 i == 46) = true := beq_iff_eq.mpr q5
                have H := HE.out
                clear HE
                rw [show scanEnd a0 a1 (a1 + 1) n i o = (0, 0, 12) from by unfold scanEnd; simp [q1, q4, q5, show a1 < a1 + 1 from by omega]] at H
                simp only [Prod.mk.injEq] at H
                obtain ⟨rfl, rfl, rfl⟩ := H
                go_wp2_with (go_at_call 12; refine (scan_digit a0 i (by omega) hs _ _ (by first | assumption | simp) false C7'.out).mono ?_; rintro e w' ⟨rfl, rfl⟩)
                go_step3
                refine exFwd_goto ?_
                go_wp2
                rw [Exit.noGoto_ret]
                go_ret3
                exact ⟨rfl, below_alloc (Below.refl _ _) _⟩
              · have q5b : (bt a0 i == 46) = false := beq_eq_false_iff_ne.mpr q5
                by_cases q6 : bt a0 i = 101
                · have q6b : (bt a0 i == 101) = true := beq_iff_eq.mpr q6
                  have H := HE.out
                  clear HE
                  rw [show scanEnd a0 a1 (a1 + 1) n i o = (0, 0, 12) from by unfold scanEnd; simp [q1, q4, q5, q6, show a1 < a1 + 1 from by omega]] at H
                  simp only [Prod.mk.injEq] at H
                  obtain ⟨rfl, rfl, rfl⟩ := H
                  go_wp2_with (go_at_call 12; refine (scan_digit a0 i (by omega) hs _ _ (by first | assumption | simp) false C7'.out).mono ?_; rintro e w' ⟨rfl, rfl⟩)
                  go_step3
                  refine exFwd_goto ?_
                  go_wp2
                  rw [Exit.noGoto_ret]
                  go_ret3
                  exact ⟨rfl, below_alloc (Below.refl _ _) _⟩
                · have q6b : (bt a0 i == 101) = false := beq_eq_false_iff_ne.mpr q6
                  by_cases q7 : bt a0 i = 69
                  · have q7b : (bt a0 i == 69) = true := beq_iff_eq.mpr q7
                    have H := HE.out
                    clear HE
                    rw [show scanEnd a0 a1 (a1 + 1) n i o = (0, 0, 12) from by unfold scanEnd; simp [q1, q4, q5, q6, q7, show a1 < a1 + 1 from by omega]] at H
                    simp only [Prod.mk.injEq] at H
                    obtain ⟨rfl, rfl, rfl⟩ := H
                    go_wp2_with (go_at_call 12; refine (scan_digit a0 i (by omega) hs _ _ (by first | assumption | simp) false C7'.out).mono ?_; rintro e w' ⟨rfl, rfl⟩)
                    go_step3
                    refine exFwd_goto ?_
                    go_wp2
                    rw [Exit.noGoto_ret]
                    go_ret3
                    exact ⟨rfl, below_alloc (Below.refl _ _) _⟩
                  · have q7b : (bt a0 i == 69) = false := beq_eq_false_iff_ne.mpr q7
                    cases o with
                    | true =>
                      have H := HE.out
                      clear HE
                      rw [show scanEnd a0 a1 (a1 + 1) n i true = (0, 0, 2) from by unfold scanEnd; simp [q1, q4, q5, q6, q7, show a1 < a1 + 1 from by omega]] at H
                      simp only [Prod.mk.injEq] at H
                      obtain ⟨rfl, rfl, rfl⟩ := H
                      go_wp2_with (go_at_call 12; refine (scan_digit a0 i (by omega) hs _ _ (by first | assumption | simp) false C7'.out).mono ?_; rintro e w' ⟨rfl, rfl⟩)
                      go_step3
                      refine exFwd_goto ?_
                      go_wp2
                      rw [Exit.noGoto_ret]
                      go_ret3
                      exact ⟨rfl, below_alloc (Below.refl _ _) _⟩
                    | false =>
                      have H := HE.out
                      clear HE
                      rw [show scanEnd a0 a1 (a1 + 1) n i false = (-n, i, 0) from by unfold scanEnd; simp [q1, q4, q5, q6, q7, show a1 < a1 + 1 from by omega]] at H
                      simp only [Prod.mk.injEq] at H
                      obtain ⟨rfl, rfl, rfl⟩ := H
                      go_wp2_with (go_at_call 12; refine (scan_digit a0 i (by omega) hs _ _ (by first | assumption | simp) false C7'.out).mono ?_; rintro e w' ⟨rfl, rfl⟩)
                      rw [exFwd_ret]
                      go_ret3
                      exact ⟨rfl, below_alloc (Below.refl _ _) _⟩
            · skip
              cases o with
              | true =>
                have H := HE.out
                clear HE
                rw [show scanEnd a0 a1 (a1 + 1) n i true = (0, 0, 2) from by unfold scanEnd; simp [q1, q4, show a1 < a1 + 1 from by omega]] at H
                simp only [Prod.mk.injEq] at H
                obtain ⟨rfl, rfl, rfl⟩ := H
                go_wp2_with (go_at_call 12; refine (scan_digit a0 i (by omega) hs _ _ (by first | assumption | simp) false C7'.out).mono ?_; rintro e w' ⟨rfl, rfl⟩)
                go_step3
                refine exFwd_goto ?_
                go_wp2
                rw [Exit.noGoto_ret]
                go_ret3
                exact ⟨rfl, below_alloc (Below.refl _ _) _⟩
              | false =>
                have H := HE.out
                clear HE
                rw [show scanEnd a0 a1 (a1 + 1) n i false = (-n, i, 0) from by unfold scanEnd; simp [q1, q4, show a1 < a1 + 1 from by omega]] at H
                simp only [Prod.mk.injEq] at H
                obtain ⟨rfl, rfl, rfl⟩ := H
                go_wp2_with (go_at_call 12; refine (scan_digit a0 i (by omega) hs _ _ (by first | assumption | simp) false C7'.out).mono ?_; rintro e w' ⟨rfl, rfl⟩)
                rw [exFwd_ret]
                go_ret3
                exact ⟨rfl, below_alloc (Below.refl _ _) _⟩
  rw [if_neg c3] at hb
  have hb' : a1 = b := hb.symm
  clear hb
  subst hb'
  by_cases c3l : a1 < (a0.size : Int)
  case neg =>
    have c5 : a1 = (a0.size : Int) := by omega
    have c5b : (a1 == (a0.size : Int)) = true := beq_iff_eq.mpr c5
    have H := H'.out
    rw [scanFrom, if_pos c5] at H
    clear H'
    simp only [Prod.mk.injEq] at H
    obtain ⟨rfl, rfl, rfl⟩ := H
    clear c5 c3
    go_enter Tryd.func9, Tryd.ntmps9
    go_wp2
    refine wp_scope_fwd 0 (by rfl) ?_
    go_wp2
    go_step3
    refine exFwd_goto ?_
    go_wp2
    rw [Exit.noGoto_ret]
    go_ret3
    exact ⟨rfl, below_alloc (Below.refl _ _) _⟩
  have c4b : (bt a0 a1 == 45) = false := beq_eq_false_iff_ne.mpr (fun e => c3 ⟨c3l, e⟩)
  clear c3
  by_cases c5 : a1 = (a0.size : Int)
  · have c5b : (a1 == (a0.size : Int)) = true := beq_iff_eq.mpr c5
    have H := H'.out
    rw [scanFrom, if_pos c5] at H
    clear H'
    simp only [Prod.mk.injEq] at H
    obtain ⟨rfl, rfl, rfl⟩ := H
    clear c5 hxb
    go_enter Tryd.func9, Tryd.ntmps9
    go_wp2
    refine wp_scope_fwd 0 (by rfl) ?_
    go_wp2
    go_step3
    refine exFwd_goto ?_
    go_wp2
    rw [Exit.noGoto_ret]
    go_ret3
    exact ⟨rfl, below_alloc (Below.refl _ _) _⟩
  have c5b : (a1 == (a0.size : Int)) = false := beq_eq_false_iff_ne.mpr c5
  have c5l : a1 < (a0.size : Int) := by omega
  have H := H'.out
  rw [scanFrom, if_neg c5] at H
  clear H' c5
  by_cases c6 : isDig a0 a1 = true
  case neg =>
    rw [if_neg c6] at H
    simp only [Prod.mk.injEq] at H
    obtain ⟨rfl, rfl, rfl⟩ := H
    have C6 := Aside0.mk (show isDig a0 a1 = false by simpa using c6)
    clear c6
    go_enter Tryd.func9, Tryd.ntmps9
    go_wp2
    refine wp_scope_fwd 0 (by rfl) ?_
    go_wp2_with (go_at_call 12; refine (scan_digit a0 a1 (by omega) hs _ _ (by first | assumption | simp) false C6.out).mono ?_; rintro e w' ⟨rfl, rfl⟩)
    go_step3
    refine exFwd_goto ?_
    go_wp2
    rw [Exit.noGoto_ret]
    go_ret3
    exact ⟨rfl, below_alloc (Below.refl _ _) _⟩
  rw [if_pos c6] at H
  have C6 := Aside0.mk c6
  clear c6
  obtain ⟨K, hK⟩ : ∃ K, K = ((a0.size : Int) - a1).toNat + 1 := ⟨_, rfl⟩
  rw [← hK] at H
  obtain ⟨R, hR⟩ : ∃ R, R = scanL a0 K 0 a1 false := ⟨_, rfl⟩
  rw [← hR] at H
  have HE0 := Aside0.mk H
  have HR := Aside0.mk hR.symm
  have HK0 := Aside0.mk (show (a0.size : Int) - a1 < K by omega)
  clear H hR hK
  go_enter Tryd.func9, Tryd.ntmps9
  go_wp2
  refine wp_scope_fwd 0 (by rfl) ?_
  go_wp2_with (go_at_call 12; refine (scan_digit a0 a1 (by omega) hs _ _ (by first | assumption | simp) true C6.out).mono ?_; rintro e w' ⟨rfl, rfl⟩)
  go_step3
  go_wp2_with fail
  go_loopg [4, 5, 9] K (fun kq v4 v5 v9 w' => ∃ (n i : Int) (o : Bool), v4 = .int .i64 n ∧ v5 = .int .i64 i ∧ v9 = .bool o ∧ Aside0 (scanL a0 kq n i o = R) ∧ Aside0 ((a0.size : Int) - i < kq) ∧ ((0 ≤ n ∧ n ≤ 9007199254740991) ∧ a1 ≤ i ∧ i ≤ (a0.size : Int)) ∧ w' = (w.alloc (Obj.cells #[Value.string a0] 9)))
  case atStart => exact ⟨0, a1, false, rfl, rfl, rfl, HR, HK0, ⟨⟨by omega, by omega⟩, by omega, by omega⟩, rfl⟩
  case round =>
    clear HR HK0 C6
    obtain ⟨n, i, o, rfl, rfl, rfl, HA, HK, hb, rfl⟩ := hrel
    have hxi := bt_at a0 i
    cases gk with
    | zero => exact absurd HK.out (by omega)
    | succ k1 =>
      have H := HA.out
      clear HA
      rw [scanL] at H
      by_cases c7 : isDig a0 i = true
      · rw [if_pos c7] at H
        have hd : i < (a0.size : Int) ∧ 48 ≤ bt a0 i ∧ bt a0 i ≤ 57 := by simpa [isDig] using c7
        have C7 := Aside0.mk c7
        clear c7
        by_cases c8 : 10 * n + (bt a0 i - 48) > 9007199254740991
        · rw [if_pos c8] at H
          have H' := Aside0.mk H
          clear H HE0
          go_wp2_with (go_at_call 12; refine (scan_digit a0 i (by omega) hs _ _ (by first | assumption | simp) true C7.out).mono ?_; rintro e w' ⟨rfl, rfl⟩)
          go_roundg k1
          case measure => omega
          case rel => exact ⟨_, _, _, by go_num, by go_num, rfl, H', ⟨by have := HK.out; omega⟩, ⟨⟨by omega, by omega⟩, by omega, by omega⟩, rfl⟩
        · rw [if_neg c8] at H
          have H' := Aside0.mk H
          clear H HE0
          go_wp2_with (go_at_call 12; refine (scan_digit a0 i (by omega) hs _ _ (by first | assumption | simp) true C7.out).mono ?_; rintro e w' ⟨rfl, rfl⟩)
          go_roundg k1
          case measure => omega
          case rel => exact ⟨_, _, _, by go_num, by go_num, rfl, H', ⟨by have := HK.out; omega⟩, ⟨⟨by omega, by omega⟩, by omega, by omega⟩, rfl⟩
      · rw [if_neg c7] at H
        have C7 := Aside0.mk (show isDig a0 i = false by simpa using c7)
        subst H
        have HE : Aside0 (scanEnd a0 a1 a1 n i o = (r1, r2, r3)) := HE0
        clear HE0 HK c7
        have C7' := C7
        clear C7
        have hnn : 0 ≤ n ∧ n ≤ 9007199254740991 := hb.1
        by_cases q1 : bt a0 a1 = 48
        · have q1b : (bt a0 a1 == 48) = true := beq_iff_eq.mpr q1
          by_cases q2 : i > a1 + 1
          · skip
            have H := HE.out
            clear HE
            rw [show scanEnd a0 a1 (a1) n i o = (0, 0, 12) from by unfold scanEnd; simp [q1, q2]] at H
            simp only [Prod.mk.injEq] at H
            obtain ⟨rfl, rfl, rfl⟩ := H
            go_wp2_with (go_at_call 12; refine (scan_digit a0 i (by omega) hs _ _ (by first | assumption | simp) false C7'.out).mono ?_; rintro e w' ⟨rfl, rfl⟩)
            go_step3
            refine exFwd_goto ?_
            go_wp2
            rw [Exit.noGoto_ret]
            go_ret3
            exact ⟨rfl, below_alloc (Below.refl _ _) _⟩
          · skip
            by_cases q4 : i < (a0.size : Int)
            · have hxi := bt_at a0 i
              by_cases q5 : bt a0 i = 46
              · have q5b : (bt a0 i == 46) = true := beq_iff_eq.mpr q5
                have H := HE.out
                clear HE
                rw [show scanEnd a0 a1 (a1) n i o = (0, 0, 12) from by unfold scanEnd; simp [q1, q2, q4, q5]] at H
                simp only [Prod.mk.injEq] at H
                obtain ⟨rfl, rfl, rfl⟩ := H
                go_wp2_with (go_at_call 12; refine (scan_digit a0 i (by omega) hs _ _ (by first | assumption | simp) false C7'.out).mono ?_; rintro e w' ⟨rfl, rfl⟩)
                go_step3
                refine exFwd_goto ?_
                go_wp2
                rw [Exit.noGoto_ret]
                go_ret3
                exact ⟨rfl, below_alloc (Below.refl _ _) _⟩
              · have q5b : (bt a0 i == 46) = false := beq_eq_false_iff_ne.mpr q5
                by_cases q6 : bt a0 i = 101
                · have q6b : (bt a0 i == 101) = true := beq_iff_eq.mpr q6
                  have H := HE.out
                  clear HE
                  rw [show scanEnd a0 a1 (a1) n i o = (0, 0, 12) from by unfold scanEnd; simp [q1, q2, q4, q5, q6]] at H
                  simp only [Prod.mk.injEq] at H
                  obtain ⟨rfl, rfl, rfl⟩ := H
                  go_wp2_with (go_at_call 12; refine (scan_digit a0 i (by omega) hs _ _ (by first | assumption | simp) false C7'.out).mono ?_; rintro e w' ⟨rfl, rfl⟩)
                  go_step3
                  refine exFwd_goto ?_
                  go_wp2
                  rw [Exit.noGoto_ret]
                  go_ret3
                  exact ⟨rfl, below_alloc (Below.refl _ _) _⟩
                · have q6b : (bt a0 i == 101) = false := beq_eq_false_iff_ne.mpr q6
                  by_cases q7 : bt a0 i = 69
                  · have q7b : (bt a0 i == 69) = true := beq_iff_eq.mpr q7
                    have H := HE.out
                    clear HE
                    rw [show scanEnd a0 a1 (a1) n i o = (0, 0, 12) from by unfold scanEnd; simp [q1, q2, q4, q5, q6, q7]] at H
                    simp only [Prod.mk.injEq] at H
                    obtain ⟨rfl, rfl, rfl⟩ := H
                    go_wp2_with (go_at_call 12; refine (scan_digit a0 i (by omega) hs _ _ (by first | assumption | simp) false C7'.out).mono ?_; rintro e w' ⟨rfl, rfl⟩)
                    go_step3
                    refine exFwd_goto ?_
                    go_wp2
                    rw [Exit.noGoto_ret]
                    go_ret3
                    exact ⟨rfl, below_alloc (Below.refl _ _) _⟩
                  · have q7b : (bt a0 i == 69) = false := beq_eq_false_iff_ne.mpr q7
                    cases o with
                    | true =>
                      have H := HE.out
                      clear HE
                      rw [show scanEnd a0 a1 (a1) n i true = (0, 0, 2) from by unfold scanEnd; simp [q1, q2, q4, q5, q6, q7]] at H
                      simp only [Prod.mk.injEq] at H
                      obtain ⟨rfl, rfl, rfl⟩ := H
                      go_wp2_with (go_at_call 12; refine (scan_digit a0 i (by omega) hs _ _ (by first | assumption | simp) false C7'.out).mono ?_; rintro e w' ⟨rfl, rfl⟩)
                      go_step3
                      refine exFwd_goto ?_
                      go_wp2
                      rw [Exit.noGoto_ret]
                      go_ret3
                      exact ⟨rfl, below_alloc (Below.refl _ _) _⟩
                    | false =>
                      have H := HE.out
                      clear HE
                      rw [show scanEnd a0 a1 (a1) n i false = (n, i, 0) from by unfold scanEnd; simp [q1, q2, q4, q5, q6, q7]] at H
                      simp only [Prod.mk.injEq] at H
                      obtain ⟨rfl, rfl, rfl⟩ := H
                      go_wp2_with (go_at_call 12; refine (scan_digit a0 i (by omega) hs _ _ (by first | assumption | simp) false C7'.out).mono ?_; rintro e w' ⟨rfl, rfl⟩)
                      rw [exFwd_ret]
                      go_ret3
                      exact ⟨rfl, below_alloc (Below.refl _ _) _⟩
            · skip
              cases o with
              | true =>
                have H := HE.out
                clear HE
                rw [show scanEnd a0 a1 (a1) n i true = (0, 0, 2) from by unfold scanEnd; simp [q1, q2, q4]] at H
                simp only [Prod.mk.injEq] at H
                obtain ⟨rfl, rfl, rfl⟩ := H
                go_wp2_with (go_at_call 12; refine (scan_digit a0 i (by omega) hs _ _ (by first | assumption | simp) false C7'.out).mono ?_; rintro e w' ⟨rfl, rfl⟩)
                go_step3
                refine exFwd_goto ?_
                go_wp2
                rw [Exit.noGoto_ret]
                go_ret3
                exact ⟨rfl, below_alloc (Below.refl _ _) _⟩
              | false =>
                have H := HE.out
                clear HE
                rw [show scanEnd a0 a1 (a1) n i false = (n, i, 0) from by unfold scanEnd; simp [q1, q2, q4]] at H
                simp only [Prod.mk.injEq] at H
                obtain ⟨rfl, rfl, rfl⟩ := H
                go_wp2_with (go_at_call 12; refine (scan_digit a0 i (by omega) hs _ _ (by first | assumption | simp) false C7'.out).mono ?_; rintro e w' ⟨rfl, rfl⟩)
                rw [exFwd_ret]
                go_ret3
                exact ⟨rfl, below_alloc (Below.refl _ _) _⟩
        · have q1b : (bt a0 a1 == 48) = false := beq_eq_false_iff_ne.mpr q1
          by_cases q4 : i < (a0.size : Int)
          · have hxi := bt_at a0 i
            by_cases q5 : bt a0 i = 46
            · have q5b : (bt a0 i == 46) = true := beq_iff_eq.mpr q5
              have H := HE.out
              clear HE
              rw [show scanEnd a0 a1 (a1) n i o = (0, 0, 12) from by unfold scanEnd; simp [q1, q4, q5]] at H
              simp only [Prod.mk.injEq] at H
              obtain ⟨rfl, rfl, rfl⟩ := H
              go_wp2_with (go_at_call 12; refine (scan_digit a0 i (by omega) hs _ _ (by first | assumption | simp) false C7'.out).mono ?_; rintro e w' ⟨rfl, rfl⟩)
              go_step3
              refine exFwd_goto ?_
              go_wp2
              rw [Exit.noGoto_ret]
              go_ret3
              exact ⟨rfl, below_alloc (Below.refl _ _) _⟩
            · have q5b : (bt a0 i == 46) = false := beq_eq_false_iff_ne.mpr q5
              by_cases q6 : bt a0 i = 101
              · have q6b : (bt a0 i == 101) = true := beq_iff_eq.mpr q6
                have H := HE.out
                clear HE
                rw [show scanEnd a0 a1 (a1) n i o = (0, 0, 12) from by unfold scanEnd; simp [q1, q4, q5, q6]] at H
                simp only [Prod.mk.injEq] at H
                obtain ⟨rfl, rfl, rfl⟩ := H
                go_wp2_with (go_at_call 12; refine (scan_digit a0 i (by omega) hs _ _ (by first | assumption | simp) false C7'.out).mono ?_; rintro e w' ⟨rfl, rfl⟩)
                go_step3
                refine exFwd_goto ?_
                go_wp2
                rw [Exit.noGoto_ret]
                go_ret3
                exact ⟨rfl, below_alloc (Below.refl _ _) _⟩
              · have q6b : (bt a0 i == 101) = false := beq_eq_false_iff_ne.mpr q6
                by_cases q7 : bt a0 i = 69
                · have q7b : (bt a0 i == 69) = true := beq_iff_eq.mpr q7
                  have H := HE.out
                  clear HE
                  rw [show scanEnd a0 a1 (a1) n i o = (0, 0, 12) from by unfold scanEnd; simp [q1, q4, q5, q6, q7]] at H
                  simp only [Prod.mk.injEq] at H
                  obtain ⟨rfl, rfl, rfl⟩ := H
                  go_wp2_with (go_at_call 12; refine (scan_digit a0 i (by omega) hs _ _ (by first | assumption | simp) false C7'.out).mono ?_; rintro e w' ⟨rfl, rfl⟩)
                  go_step3
                  refine exFwd_goto ?_
                  go_wp2
                  rw [Exit.noGoto_ret]
                  go_ret3
                  exact ⟨rfl, below_alloc (Below.refl _ _) _⟩
                · have q7b : (bt a0 i == 69) = false := beq_eq_false_iff_ne.mpr q7
                  cases o with
                  | true =>
                    have H := HE.out
                    clear HE
                    rw [show scanEnd a0 a1 (a1) n i true = (0, 0, 2) from by unfold scanEnd; simp [q1, q4, q5, q6, q7]] at H
                    simp only [Prod.mk.injEq] at H
                    obtain ⟨rfl, rfl, rfl⟩ := H
                    go_wp2_with (go_at_call 12; refine (scan_digit a0 i (by omega) hs _ _ (by first | assumption | simp) false C7'.out).mono ?_; rintro e w' ⟨rfl, rfl⟩)
                    go_step3
                    refine exFwd_goto ?_
                    go_wp2
                    rw [Exit.noGoto_ret]
                    go_ret3
                    exact ⟨rfl, below_alloc (Below.refl _ _) _⟩
                  | false =>
                    have H := HE.out
                    clear HE
                    rw [show scanEnd a0 a1 (a1) n i false = (n, i, 0) from by unfold scanEnd; simp [q1, q4, q5, q6, q7]] at H
                    simp only [Prod.mk.injEq] at H
                    obtain ⟨rfl, rfl, rfl⟩ := H
                    go_wp2_with (go_at_call 12; refine (scan_digit a0 i (by omega) hs _ _ (by first | assumption | simp) false C7'.out).mono ?_; rintro e w' ⟨rfl, rfl⟩)
                    rw [exFwd_ret]
                    go_ret3
                    exact ⟨rfl, below_alloc (Below.refl _ _) _⟩
          · skip
            cases o with
            | true =>
              have H := HE.out
              clear HE
              rw [show scanEnd a0 a1 (a1) n i true = (0, 0, 2) from by unfold scanEnd; simp [q1, q4]] at H
              simp only [Prod.mk.injEq] at H
              obtain ⟨rfl, rfl, rfl⟩ := H
              go_wp2_with (go_at_call 12; refine (scan_digit a0 i (by omega) hs _ _ (by first | assumption | simp) false C7'.out).mono ?_; rintro e w' ⟨rfl, rfl⟩)
              go_step3
              refine exFwd_goto ?_
              go_wp2
              rw [Exit.noGoto_ret]
              go_ret3
              exact ⟨rfl, below_alloc (Below.refl _ _) _⟩
            | false =>
              have H := HE.out
              clear HE
              rw [show scanEnd a0 a1 (a1) n i false = (n, i, 0) from by unfold scanEnd; simp [q1, q4]] at H
              simp only [Prod.mk.injEq] at H
              obtain ⟨rfl, rfl, rfl⟩ := H
              go_wp2_with (go_at_call 12; refine (scan_digit a0 i (by omega) hs _ _ (by first | assumption | simp) false C7'.out).mono ?_; rintro e w' ⟨rfl, rfl⟩)
              rw [exFwd_ret]
              go_ret3
              exact ⟨rfl, below_alloc (Below.refl _ _) _⟩
end Go.Proofs.YtinenogcokjpjaaDoor.X
