import Derived.Test.YtjdgjifacdnkgaaC06C2
import Derived.Shelf.Strings.Prefix
import Derived.Test.YtjdgjifacdnkgaaProg
import Derived.Deep.RegionHeld3
section
namespace Go.Proofs.Ytjdgjifacdnkgaa.X
open Go.RowKit Go.Proofs.YtjdgjifacdnkgaaW.PrintWords Go.Proofs.YtjdgjifacdnkgaaW.PrintLast Go.Proofs.YtjdgjifacdnkgaaW.PrintMore
set_option linter.unusedVariables false
set_option linter.unusedSimpArgs false
def isDig (s : ByteArray) (i : Int) : Bool := decide (i < (s.size : Int)) && (decide (48 ≤ bt s i) && decide (bt s i ≤ 57))
def scanL (s : ByteArray) : Nat → Int → Int → Bool → Int × Int × Bool
  | 0, n, i, o => (n, i, o)
  | k + 1, n, i, o => if isDig s i = true then (if 10 * n + (bt s i - 48) > 9007199254740991 then scanL s k 9007199254740991 (i + 1) true else scanL s k (10 * n + (bt s i - 48)) (i + 1) o) else (n, i, o)
def scanEnd (s : ByteArray) (a b n i : Int) (o : Bool) : Int × Int × Int :=
  if bt s b = 48 ∧ (i > b + 1 ∨ b > a) then (0, 0, 12) else if i < (s.size : Int) ∧ (bt s i = 46 ∨ bt s i = 101 ∨ bt s i = 69) then (0, 0, 12) else if o = true then (0, 0, 2) else if b > a then (-n, i, 0) else (n, i, 0)
def scanFrom (s : ByteArray) (a b : Int) : Int × Int × Int :=
  if b = (s.size : Int) then (0, 0, 5) else if isDig s b = true then scanEnd s a b (scanL s (((s.size : Int) - b).toNat + 1) 0 b false).1 (scanL s (((s.size : Int) - b).toNat + 1) 0 b false).2.1 (scanL s (((s.size : Int) - b).toNat + 1) 0 b false).2.2 else (0, 0, 6)
def numScan (s : ByteArray) (a : Int) : Int × Int × Int :=
  if a < 0 then (0, 0, 1) else if a > (s.size : Int) then (0, 0, 1) else if a < (s.size : Int) ∧ bt s a = 45 then scanFrom s a (a + 1) else scanFrom s a a
def num_Scan.f (a0 : ByteArray) (a1 : Int) : Option (Int × Int × Int) := if a0.size ≤ 140737488351232 then some (numScan a0 a1) else none
set_option maxHeartbeats 400000 in
set_option maxRecDepth 100000 in
theorem scan_digit (s : ByteArray) (i : Int) (h0 : 0 ≤ i) (hs : s.size ≤ 140737488351232) (p : Addr) (w : World) (hp : w.cell? p = some (.string s)) (b : Bool) (hb : isDig s i = b) :
    Calls Try.prog 28 #[.int .i64 i, .pointer (some p)] w fun e w' => e = .returned (.bool b) ∧ w = w' := by
  have hx := bt_at s i
  by_cases c1 : i < (s.size : Int)
  · by_cases c2 : 48 ≤ bt s i
    · by_cases c3 : bt s i ≤ 57
      · obtain rfl : true = b := by rw [← hb]; simp [isDig, c1, c2, c3]
        clear hb
        go_enter Try.func28, Try.ntmps28
        go_wp2
        go_ret
        exact ⟨rfl, rfl⟩
      · obtain rfl : false = b := by rw [← hb]; simp [isDig, c1, c2, c3]
        clear hb
        go_enter Try.func28, Try.ntmps28
        go_wp2
        go_ret
        exact ⟨rfl, rfl⟩
    · obtain rfl : false = b := by rw [← hb]; simp [isDig, c1, c2]
      clear hb
      go_enter Try.func28, Try.ntmps28
      go_wp2
      go_ret
      exact ⟨rfl, rfl⟩
  · obtain rfl : false = b := by rw [← hb]; simp [isDig, c1]
    clear hb
    go_enter Try.func28, Try.ntmps28
    go_wp2
    go_ret
    exact ⟨rfl, rfl⟩
set_option maxHeartbeats 8000000 in
set_option maxRecDepth 100000 in
theorem num_Scan.calls (a0 : ByteArray) (a1 : Int) (r1 r2 r3 : Int) (w : World) (h : num_Scan.f a0 a1 = some (r1, r2, r3)) :
    Calls Try.prog 19 #[.string a0, .int .i64 a1] w fun e w' => e = .returned (.tuple #[.int .i64 r1, .int .i64 r2, .int .i64 r3]) ∧ Below w.heap.size w w' := by
  unfold num_Scan.f at h
  by_cases hs : a0.size ≤ 140737488351232
  case neg => rw [if_neg hs] at h; cases h
  rw [if_pos hs] at h
  have H : numScan a0 a1 = (r1, r2, r3) := Option.some.inj h
  clear h
  unfold numScan at H
  by_cases c1 : a1 < 0
  · rw [if_pos c1] at H
    simp only [Prod.mk.injEq] at H
    obtain ⟨rfl, rfl, rfl⟩ := H
    go_enter Try.func19, Try.ntmps19
    go_wp2
    go_step3
    go_wp2
    rw [Exit.noGoto_ret]
    go_ret3
    exact ⟨rfl, below_alloc (Below.refl _ _) _⟩
  rw [if_neg c1] at H
  by_cases c2 : a1 > (a0.size : Int)
  · rw [if_pos c2] at H
    simp only [Prod.mk.injEq] at H
    obtain ⟨rfl, rfl, rfl⟩ := H
    go_enter Try.func19, Try.ntmps19
    go_wp2
    go_step3
    go_wp2
    rw [Exit.noGoto_ret]
    go_ret3
    exact ⟨rfl, below_alloc (Below.refl _ _) _⟩
  rw [if_neg c2] at H
  obtain ⟨b, hb⟩ : ∃ b, b = (if a1 < (a0.size : Int) ∧ bt a0 a1 = 45 then a1 + 1 else a1) := ⟨_, rfl⟩
  have H' : Aside0 (scanFrom a0 a1 b = (r1, r2, r3)) := ⟨by rw [hb]; split at H <;> (rename_i hc; first | rw [if_pos hc] | rw [if_neg hc]) <;> exact H⟩
  clear H
  have hb1 : a1 ≤ b ∧ b ≤ (a0.size : Int) ∧ b ≤ a1 + 1 := by
    rw [hb]; split <;> rename_i hc
    · have := hc.1; omega
    · omega
  have hx := bt_at a0 a1
  have hxb := bt_at a0 b
  by_cases c3 : a1 < (a0.size : Int) ∧ bt a0 a1 = 45
  · rw [if_pos c3] at hb
    obtain ⟨c3, c4⟩ := c3
    have c4b : (bt a0 a1 == 45) = true := beq_iff_eq.mpr c4
    clear c4
    subst hb
    by_cases c5 : a1 + 1 = (a0.size : Int)
    · have c5b : (a1 + 1 == (a0.size : Int)) = true := beq_iff_eq.mpr c5
      have H := H'.out
      rw [scanFrom, if_pos c5] at H
      clear H'
      simp only [Prod.mk.injEq] at H
      obtain ⟨rfl, rfl, rfl⟩ := H
      clear c5 hxb
      go_enter Try.func19, Try.ntmps19
      go_wp2
      refine wp_scope_fwd 0 (by rfl) ?_
      go_wp2
      go_step3
      refine exFwd_goto ?_
      go_wp2
      rw [Exit.noGoto_ret]
      go_ret3
      exact ⟨rfl, below_alloc (Below.refl _ _) _⟩
    have c5b : (a1 + 1 == (a0.size : Int)) = false := beq_eq_false_iff_ne.mpr c5
    have c5l : a1 + 1 < (a0.size : Int) := by omega
    have H := H'.out
    rw [scanFrom, if_neg c5] at H
    clear H' c5
    by_cases c6 : isDig a0 (a1 + 1) = true
    case neg =>
      rw [if_neg c6] at H
      simp only [Prod.mk.injEq] at H
      obtain ⟨rfl, rfl, rfl⟩ := H
      have C6 := Aside0.mk (show isDig a0 (a1 + 1) = false by simpa using c6)
      clear c6
      go_enter Try.func19, Try.ntmps19
      go_wp2
      refine wp_scope_fwd 0 (by rfl) ?_
      go_wp2_with (go_at_call 28; refine (scan_digit a0 (a1 + 1) (by omega) hs _ _ (by first | assumption | simp) false C6.out).mono ?_; rintro e w' ⟨rfl, rfl⟩)
      go_step3
      refine exFwd_goto ?_
      go_wp2
      rw [Exit.noGoto_ret]
      go_ret3
      exact ⟨rfl, below_alloc (Below.refl _ _) _⟩
    rw [if_pos c6] at H
    have C6 := Aside0.mk c6
    clear c6
    obtain ⟨K, hK⟩ : ∃ K, K = ((a0.size : Int) - (a1 + 1)).toNat + 1 := ⟨_, rfl⟩
    rw [← hK] at H
    obtain ⟨R, hR⟩ : ∃ R, R = scanL a0 K 0 (a1 + 1) false := ⟨_, rfl⟩
    rw [← hR] at H
    have HE0 := Aside0.mk H
    have HR := Aside0.mk hR.symm
    have HK0 := Aside0.mk (show (a0.size : Int) - (a1 + 1) < K by omega)
    clear H hR hK
    go_enter Try.func19, Try.ntmps19
    go_wp2
    refine wp_scope_fwd 0 (by rfl) ?_
    go_wp2_with (go_at_call 28; refine (scan_digit a0 (a1 + 1) (by omega) hs _ _ (by first | assumption | simp) true C6.out).mono ?_; rintro e w' ⟨rfl, rfl⟩)
    go_step3
    go_wp2_with fail
    go_loopg [4, 5, 9] K (fun kq v4 v5 v9 w' => ∃ (n i : Int) (o : Bool), v4 = .int .i64 n ∧ v5 = .int .i64 i ∧ v9 = .bool o ∧ Aside0 (scanL a0 kq n i o = R) ∧ Aside0 ((a0.size : Int) - i < kq) ∧ ((0 ≤ n ∧ n ≤ 9007199254740991) ∧ a1 + 1 ≤ i ∧ i ≤ (a0.size : Int)) ∧ w' = (w.alloc (Obj.cells #[Value.string a0] 9)))
    case atStart => exact ⟨0, a1 + 1, false, rfl, rfl, rfl, HR, HK0, ⟨⟨by omega, by omega⟩, by omega, by omega⟩, rfl⟩
    case round =>
      clear HR HK0 C6
      obtain ⟨n, i, o, rfl, rfl, rfl, HA, HK, hb, rfl⟩ := hrel
      have hxi := bt_at a0 i
      cases gk with
      | zero => exact absurd HK.out (by omega)
      | succ k1 =>
        have H := HA.out
        clear HA
        rw [scanL] at H
        by_cases c7 : isDig a0 i = true
        · rw [if_pos c7] at H
          have hd : i < (a0.size : Int) ∧ 48 ≤ bt a0 i ∧ bt a0 i ≤ 57 := by simpa [isDig] using c7
          have C7 := Aside0.mk c7
          clear c7
          by_cases c8 : 10 * n + (bt a0 i - 48) > 9007199254740991
          · rw [if_pos c8] at H
            have H' := Aside0.mk H
            clear H HE0
            go_wp2_with (go_at_call 28; refine (scan_digit a0 i (by omega) hs _ _ (by first | assumption | simp) true C7.out).mono ?_; rintro e w' ⟨rfl, rfl⟩)
            go_roundg k1
            case measure => omega
            case rel => exact ⟨_, _, _, by go_num, by go_num, rfl, H', ⟨by have := HK.out; omega⟩, ⟨⟨by omega, by omega⟩, by omega, by omega⟩, rfl⟩
          · rw [if_neg c8] at H
            have H' := Aside0.mk H
            clear H HE0
            go_wp2_with (go_at_call 28; refine (scan_digit a0 i (by omega) hs _ _ (by first | assumption | simp) true C7.out).mono ?_; rintro e w' ⟨rfl, rfl⟩)
            go_roundg k1
            case measure => omega
            case rel => exact ⟨_, _, _, by go_num, by go_num, rfl, H', ⟨by have := HK.out; omega⟩, ⟨⟨by omega, by omega⟩, by omega, by omega⟩, rfl⟩
        · rw [if_neg c7] at H
          have C7 := Aside0.mk (show isDig a0 i = false by simpa using c7)
          subst H
          have HE : Aside0 (scanEnd a0 a1 (a1 + 1) n i o = (r1, r2, r3)) := HE0
          clear HE0 HK c7
          have C7' := C7
          clear C7
          have hnn : 0 ≤ n ∧ n ≤ 9007199254740991 := hb.1
          by_cases q1 : bt a0 (a1 + 1) = 48
          · have q1b : (bt a0 (a1 + 1) == 48) = true := beq_iff_eq.mpr q1
            by_cases q2 : i > a1 + 1 + 1
            · skip
              have H := HE.out
              clear HE
              rw [show scanEnd a0 a1 (a1 + 1) n i o = (0, 0, 12) from by unfold scanEnd; simp [q1, q2, show a1 < a1 + 1 from by omega]] at H
              simp only [Prod.mk.injEq] at H
              obtain ⟨rfl, rfl, rfl⟩ := H
              go_wp2_with (go_at_call 28; refine (scan_digit a0 i (by omega) hs _ _ (by first | assumption | simp) false C7'.out).mono ?_; rintro e w' ⟨rfl, rfl⟩)
              go_step3
              refine exFwd_goto ?_
              go_wp2
              rw [Exit.noGoto_ret]
              go_ret3
              exact ⟨rfl, below_alloc (Below.refl _ _) _⟩
            · skip
              have H := HE.out
              clear HE
              rw [show scanEnd a0 a1 (a1 + 1) n i o = (0, 0, 12) from by unfold scanEnd; simp [q1, q2, show a1 < a1 + 1 from by omega]] at H
              simp only [Prod.mk.injEq] at H
              obtain ⟨rfl, rfl, rfl⟩ := H
              go_wp2_with (go_at_call 28; refine (scan_digit a0 i (by omega) hs _ _ (by first | assumption | simp) false C7'.out).mono ?_; rintro e w' ⟨rfl, rfl⟩)
              go_step3
              refine exFwd_goto ?_
              go_wp2
              rw [Exit.noGoto_ret]
              go_ret3
              exact ⟨rfl, below_alloc (Below.refl _ _) _⟩
          · have q1b : (bt a0 (a1 + 1) == 48) = false := beq_eq_false_iff_ne.mpr q1
            by_cases q4 : i < (a0.size : Int)
            · have hxi := bt_at a0 i
              by_cases q5 : bt a0 i = 46
              · have q5b : (bt a0 i == 46) = true := beq_iff_eq.mpr q5
                have H := HE.out
                clear HE
                rw [show scanEnd a0 a1 (a1 + 1) n i o = (0, 0, 12) from by unfold scanEnd; simp [q1, q4, q5, show a1 < a1 + 1 from by omega]] at H
                simp only [Prod.mk.injEq] at H
                obtain ⟨rfl, rfl, rfl⟩ := H
                go_wp2_with (go_at_call 28; refine (scan_digit a0 i (by omega) hs _ _ (by first | assumption | simp) false C7'.out).mono ?_; rintro e w' ⟨rfl, rfl⟩)
                go_step3
                refine exFwd_goto ?_
                go_wp2
                rw [Exit.noGoto_ret]
                go_ret3
                exact ⟨rfl, below_alloc (Below.refl _ _) _⟩
              · have q5b : (bt a0 i == 46) = false := beq_eq_false_iff_ne.mpr q5
                by_cases q6 : bt a0 i = 101
                · have q6b : (bt a0 i == 101) = true := beq_iff_eq.mpr q6
                  have H := HE.out
                  clear HE
                  rw [show scanEnd a0 a1 (a1 + 1) n i o = (0, 0, 12) from by unfold scanEnd; simp [q1, q4, q5, q6, show a1 < a1 + 1 from by omega]] at H
                  simp only [Prod.mk.injEq] at H
                  obtain ⟨rfl, rfl, rfl⟩ := H
                  go_wp2_with (go_at_call 28; refine (scan_digit a0 i (by omega) hs _ _ (by first | assumption | simp) false C7'.out).mono ?_; rintro e w' ⟨rfl, rfl⟩)
                  go_step3
                  refine exFwd_goto ?_
                  go_wp2
                  rw [Exit.noGoto_ret]
                  go_ret3
                  exact ⟨rfl, below_alloc (Below.refl _ _) _⟩
                · have q6b : (bt a0 i == 101) = false := beq_eq_false_iff_ne.mpr q6
                  by_cases q7 : bt a0 i = 69
                  · have q7b : (bt a0 i == 69) = true := beq_iff_eq.mpr q7
                    have H := HE.out
                    clear HE
                    rw [show scanEnd a0 a1 (a1 + 1) n i o = (0, 0, 12) from by unfold scanEnd; simp [q1, q4, q5, q6, q7, show a1 < a1 + 1 from by omega]] at H
                    simp only [Prod.mk.injEq] at H
                    obtain ⟨rfl, rfl, rfl⟩ := H
                    go_wp2_with (go_at_call 28; refine (scan_digit a0 i (by omega) hs _ _ (by first | assumption | simp) false C7'.out).mono ?_; rintro e w' ⟨rfl, rfl⟩)
                    go_step3
                    refine exFwd_goto ?_
                    go_wp2
                    rw [Exit.noGoto_ret]
                    go_ret3
                    exact ⟨rfl, below_alloc (Below.refl _ _) _⟩
                  · have q7b : (bt a0 i == 69) = false := beq_eq_false_iff_ne.mpr q7
                    cases o with
                    | true =>
                      have H := HE.out
                      clear HE
                      rw [show scanEnd a0 a1 (a1 + 1) n i true = (0, 0, 2) from by unfold scanEnd; simp [q1, q4, q5, q6, q7, show a1 < a1 + 1 from by omega]] at H
                      simp only [Prod.mk.injEq] at H
                      obtain ⟨rfl, rfl, rfl⟩ := H
                      go_wp2_with (go_at_call 28; refine (scan_digit a0 i (by omega) hs _ _ (by first | assumption | simp) false C7'.out).mono ?_; rintro e w' ⟨rfl, rfl⟩)
                      go_step3
                      refine exFwd_goto ?_
                      go_wp2
                      rw [Exit.noGoto_ret]
                      go_ret3
                      exact ⟨rfl, below_alloc (Below.refl _ _) _⟩
                    | false =>
                      have H := HE.out
                      clear HE
                      rw [show scanEnd a0 a1 (a1 + 1) n i false = (-n, i, 0) from by unfold scanEnd; simp [q1, q4, q5, q6, q7, show a1 < a1 + 1 from by omega]] at H
                      simp only [Prod.mk.injEq] at H
                      obtain ⟨rfl, rfl, rfl⟩ := H
                      go_wp2_with (go_at_call 28; refine (scan_digit a0 i (by omega) hs _ _ (by first | assumption | simp) false C7'.out).mono ?_; rintro e w' ⟨rfl, rfl⟩)
                      rw [exFwd_ret]
                      go_ret3
                      exact ⟨rfl, below_alloc (Below.refl _ _) _⟩
            · skip
              cases o with
              | true =>
                have H := HE.out
                clear HE
                rw [show scanEnd a0 a1 (a1 + 1) n i true = (0, 0, 2) from by unfold scanEnd; simp [q1, q4, show a1 < a1 + 1 from by omega]] at H
                simp only [Prod.mk.injEq] at H
                obtain ⟨rfl, rfl, rfl⟩ := H
                go_wp2_with (go_at_call 28; refine (scan_digit a0 i (by omega) hs _ _ (by first | assumption | simp) false C7'.out).mono ?_; rintro e w' ⟨rfl, rfl⟩)
                go_step3
                refine exFwd_goto ?_
                go_wp2
                rw [Exit.noGoto_ret]
                go_ret3
                exact ⟨rfl, below_alloc (Below.refl _ _) _⟩
              | false =>
                have H := HE.out
                clear HE
                rw [show scanEnd a0 a1 (a1 + 1) n i false = (-n, i, 0) from by unfold scanEnd; simp [q1, q4, show a1 < a1 + 1 from by omega]] at H
                simp only [Prod.mk.injEq] at H
                obtain ⟨rfl, rfl, rfl⟩ := H
                go_wp2_with (go_at_call 28; refine (scan_digit a0 i (by omega) hs _ _ (by first | assumption | simp) false C7'.out).mono ?_; rintro e w' ⟨rfl, rfl⟩)
                rw [exFwd_ret]
                go_ret3
                exact ⟨rfl, below_alloc (Below.refl _ _) _⟩
  rw [if_neg c3] at hb
  have hb' : a1 = b := hb.symm
  clear hb
  subst hb'
  by_cases c3l : a1 < (a0.size : Int)
  case neg =>
    have c5 : a1 = (a0.size : Int) := by omega
    have c5b : (a1 == (a0.size : Int)) = true := beq_iff_eq.mpr c5
    have H := H'.out
    rw [scanFrom, if_pos c5] at H
    clear H'
    simp only [Prod.mk.injEq] at H
    obtain ⟨rfl, rfl, rfl⟩ := H
    clear c5 c3
    go_enter Try.func19, Try.ntmps19
    go_wp2
    refine wp_scope_fwd 0 (by rfl) ?_
    go_wp2
    go_step3
    refine exFwd_goto ?_
    go_wp2
    rw [Exit.noGoto_ret]
    go_ret3
    exact ⟨rfl, below_alloc (Below.refl _ _) _⟩
  have c4b : (bt a0 a1 == 45) = false := beq_eq_false_iff_ne.mpr (fun e => c3 ⟨c3l, e⟩)
  clear c3
  by_cases c5 : a1 = (a0.size : Int)
  · have c5b : (a1 == (a0.size : Int)) = true := beq_iff_eq.mpr c5
    have H := H'.out
    rw [scanFrom, if_pos c5] at H
    clear H'
    simp only [Prod.mk.injEq] at H
    obtain ⟨rfl, rfl, rfl⟩ := H
    clear c5 hxb
    go_enter Try.func19, Try.ntmps19
    go_wp2
    refine wp_scope_fwd 0 (by rfl) ?_
    go_wp2
    go_step3
    refine exFwd_goto ?_
    go_wp2
    rw [Exit.noGoto_ret]
    go_ret3
    exact ⟨rfl, below_alloc (Below.refl _ _) _⟩
  have c5b : (a1 == (a0.size : Int)) = false := beq_eq_false_iff_ne.mpr c5
  have c5l : a1 < (a0.size : Int) := by omega
  have H := H'.out
  rw [scanFrom, if_neg c5] at H
  clear H' c5
  by_cases c6 : isDig a0 a1 = true
  case neg =>
    rw [if_neg c6] at H
    simp only [Prod.mk.injEq] at H
    obtain ⟨rfl, rfl, rfl⟩ := H
    have C6 := Aside0.mk (show isDig a0 a1 = false by simpa using c6)
    clear c6
    go_enter Try.func19, Try.ntmps19
    go_wp2
    refine wp_scope_fwd 0 (by rfl) ?_
    go_wp2_with (go_at_call 28; refine (scan_digit a0 a1 (by omega) hs _ _ (by first | assumption | simp) false C6.out).mono ?_; rintro e w' ⟨rfl, rfl⟩)
    go_step3
    refine exFwd_goto ?_
    go_wp2
    rw [Exit.noGoto_ret]
    go_ret3
    exact ⟨rfl, below_alloc (Below.refl _ _) _⟩
  rw [if_pos c6] at H
  have C6 := Aside0.mk c6
  clear c6
  obtain ⟨K, hK⟩ : ∃ K, K = ((a0.size : Int) - a1).toNat + 1 := ⟨_, rfl⟩
  rw [← hK] at H
  obtain ⟨R, hR⟩ : ∃ R, R = scanL a0 K 0 a1 false := ⟨_, rfl⟩
  rw [← hR] at H
  have HE0 := Aside0.mk H
  have HR := Aside0.mk hR.symm
  have HK0 := Aside0.mk (show (a0.size : Int) - a1 < K by omega)
  clear H hR hK
  go_enter Try.func19, Try.ntmps19
  go_wp2
  refine wp_scope_fwd 0 (by rfl) ?_
  go_wp2_with (go_at_call 28; refine (scan_digit a0 a1 (by omega) hs _ _ (by first | assumption | simp) true C6.out).mono ?_; rintro e w' ⟨rfl, rfl⟩)
  go_step3
  go_wp2_with fail
  go_loopg [4, 5, 9] K (fun kq v4 v5 v9 w' => ∃ (n i : Int) (o : Bool), v4 = .int .i64 n ∧ v5 = .int .i64 i ∧ v9 = .bool o ∧ Aside0 (scanL a0 kq n i o = R) ∧ Aside0 ((a0.size : Int) - i < kq) ∧ ((0 ≤ n ∧ n ≤ 9007199254740991) ∧ a1 ≤ i ∧ i ≤ (a0.size : Int)) ∧ w' = (w.alloc (Obj.cells #[Value.string a0] 9)))
  case atStart => exact ⟨0, a1, false, rfl, rfl, rfl, HR, HK0, ⟨⟨by omega, by omega⟩, by omega, by omega⟩, rfl⟩
  case round =>
    clear HR HK0 C6
    obtain ⟨n, i, o, rfl, rfl, rfl, HA, HK, hb, rfl⟩ := hrel
    have hxi := bt_at a0 i
    cases gk with
    | zero => exact absurd HK.out (by omega)
    | succ k1 =>
      have H := HA.out
      clear HA
      rw [scanL] at H
      by_cases c7 : isDig a0 i = true
      · rw [if_pos c7] at H
        have hd : i < (a0.size : Int) ∧ 48 ≤ bt a0 i ∧ bt a0 i ≤ 57 := by simpa [isDig] using c7
        have C7 := Aside0.mk c7
        clear c7
        by_cases c8 : 10 * n + (bt a0 i - 48) > 9007199254740991
        · rw [if_pos c8] at H
          have H' := Aside0.mk H
          clear H HE0
          go_wp2_with (go_at_call 28; refine (scan_digit a0 i (by omega) hs _ _ (by first | assumption | simp) true C7.out).mono ?_; rintro e w' ⟨rfl, rfl⟩)
          go_roundg k1
          case measure => omega
          case rel => exact ⟨_, _, _, by go_num, by go_num, rfl, H', ⟨by have := HK.out; omega⟩, ⟨⟨by omega, by omega⟩, by omega, by omega⟩, rfl⟩
        · rw [if_neg c8] at H
          have H' := Aside0.mk H
          clear H HE0
          go_wp2_with (go_at_call 28; refine (scan_digit a0 i (by omega) hs _ _ (by first | assumption | simp) true C7.out).mono ?_; rintro e w' ⟨rfl, rfl⟩)
          go_roundg k1
          case measure => omega
          case rel => exact ⟨_, _, _, by go_num, by go_num, rfl, H', ⟨by have := HK.out; omega⟩, ⟨⟨by omega, by omega⟩, by omega, by omega⟩, rfl⟩
      · rw [if_neg c7] at H
        have C7 := Aside0.mk (show isDig a0 i = false by simpa using c7)
        subst H
        have HE : Aside0 (scanEnd a0 a1 a1 n i o = (r1, r2, r3)) := HE0
        clear HE0 HK c7
        have C7' := C7
        clear C7
        have hnn : 0 ≤ n ∧ n ≤ 9007199254740991 := hb.1
        by_cases q1 : bt a0 a1 = 48
        · have q1b : (bt a0 a1 == 48) = true := beq_iff_eq.mpr q1
          by_cases q2 : i > a1 + 1
          · skip
            have H := HE.out
            clear HE
            rw [show scanEnd a0 a1 (a1) n i o = (0, 0, 12) from by unfold scanEnd; simp [q1, q2]] at H
            simp only [Prod.mk.injEq] at H
            obtain ⟨rfl, rfl, rfl⟩ := H
            go_wp2_with (go_at_call 28; refine (scan_digit a0 i (by omega) hs _ _ (by first | assumption | simp) false C7'.out).mono ?_; rintro e w' ⟨rfl, rfl⟩)
            go_step3
            refine exFwd_goto ?_
            go_wp2
            rw [Exit.noGoto_ret]
            go_ret3
            exact ⟨rfl, below_alloc (Below.refl _ _) _⟩
          · skip
            by_cases q4 : i < (a0.size : Int)
            · have hxi := bt_at a0 i
              by_cases q5 : bt a0 i = 46
              · have q5b : (bt a0 i == 46) = true := beq_iff_eq.mpr q5
                have H := HE.out
                clear HE
                rw [show scanEnd a0 a1 (a1) n i o = (0, 0, 12) from by unfold scanEnd; simp [q1, q2, q4, q5]] at H
                simp only [Prod.mk.injEq] at H
                obtain ⟨rfl, rfl, rfl⟩ := H
                go_wp2_with (go_at_call 28; refine (scan_digit a0 i (by omega) hs _ _ (by first | assumption | simp) false C7'.out).mono ?_; rintro e w' ⟨rfl, rfl⟩)
                go_step3
                refine exFwd_goto ?_
                go_wp2
                rw [Exit.noGoto_ret]
                go_ret3
                exact ⟨rfl, below_alloc (Below.refl _ _) _⟩
              · have q5b : (bt a0 i == 46) = false := beq_eq_false_iff_ne.mpr q5
                by_cases q6 : bt a0 i = 101
                · have q6b : (bt a0 i == 101) = true := beq_iff_eq.mpr q6
                  have H := HE.out
                  clear HE
                  rw [show scanEnd a0 a1 (a1) n i o = (0, 0, 12) from by unfold scanEnd; simp [q1, q2, q4, q5, q6]] at H
                  simp only [Prod.mk.injEq] at H
                  obtain ⟨rfl, rfl, rfl⟩ := H
                  go_wp2_with (go_at_call 28; refine (scan_digit a0 i (by omega) hs _ _ (by first | assumption | simp) false C7'.out).mono ?_; rintro e w' ⟨rfl, rfl⟩)
                  go_step3
                  refine exFwd_goto ?_
                  go_wp2
                  rw [Exit.noGoto_ret]
                  go_ret3
                  exact ⟨rfl, below_alloc (Below.refl _ _) _⟩
                · have q6b : (bt a0 i == 101) = false := beq_eq_false_iff_ne.mpr q6
                  by_cases q7 : bt a0 i = 69
                  · have q7b : (bt a0 i == 69) = true := beq_iff_eq.mpr q7
                    have H := HE.out
                    clear HE
                    rw [show scanEnd a0 a1 (a1) n i o = (0, 0, 12) from by unfold scanEnd; simp [q1, q2, q4, q5, q6, q7]] at H
                    simp only [Prod.mk.injEq] at H
                    obtain ⟨rfl, rfl, rfl⟩ := H
                    go_wp2_with (go_at_call 28; refine (scan_digit a0 i (by omega) hs _ _ (by first | assumption | simp) false C7'.out).mono ?_; rintro e w' ⟨rfl, rfl⟩)
                    go_step3
                    refine exFwd_goto ?_
                    go_wp2
                    rw [Exit.noGoto_ret]
                    go_ret3
                    exact ⟨rfl, below_alloc (Below.refl _ _) _⟩
                  · have q7b : (bt a0 i == 69) = false := beq_eq_false_iff_ne.mpr q7
                    cases o with
                    | true =>
                      have H := HE.out
                      clear HE
                      rw [show scanEnd a0 a1 (a1) n i true = (0, 0, 2) from by unfold scanEnd; simp [q1, q2, q4, q5, q6, q7]] at H
                      simp only [Prod.mk.injEq] at H
                      obtain ⟨rfl, rfl, rfl⟩ := H
                      go_wp2_with (go_at_call 28; refine (scan_digit a0 i (by omega) hs _ _ (by first | assumption | simp) false C7'.out).mono ?_; rintro e w' ⟨rfl, rfl⟩)
                      go_step3
                      refine exFwd_goto ?_
                      go_wp2
                      rw [Exit.noGoto_ret]
                      go_ret3
                      exact ⟨rfl, below_alloc (Below.refl _ _) _⟩
                    | false =>
                      have H := HE.out
                      clear HE
                      rw [show scanEnd a0 a1 (a1) n i false = (n, i, 0) from by unfold scanEnd; simp [q1, q2, q4, q5, q6, q7]] at H
                      simp only [Prod.mk.injEq] at H
                      obtain ⟨rfl, rfl, rfl⟩ := H
                      go_wp2_with (go_at_call 28; refine (scan_digit a0 i (by omega) hs _ _ (by first | assumption | simp) false C7'.out).mono ?_; rintro e w' ⟨rfl, rfl⟩)
                      rw [exFwd_ret]
                      go_ret3
                      exact ⟨rfl, below_alloc (Below.refl _ _) _⟩
            · skip
              cases o with
              | true =>
                have H := HE.out
                clear HE
                rw [show scanEnd a0 a1 (a1) n i true = (0, 0, 2) from by unfold scanEnd; simp [q1, q2, q4]] at H
                simp only [Prod.mk.injEq] at H
                obtain ⟨rfl, rfl, rfl⟩ := H
                go_wp2_with (go_at_call 28; refine (scan_digit a0 i (by omega) hs _ _ (by first | assumption | simp) false C7'.out).mono ?_; rintro e w' ⟨rfl, rfl⟩)
                go_step3
                refine exFwd_goto ?_
                go_wp2
                rw [Exit.noGoto_ret]
                go_ret3
                exact ⟨rfl, below_alloc (Below.refl _ _) _⟩
              | false =>
                have H := HE.out
                clear HE
                rw [show scanEnd a0 a1 (a1) n i false = (n, i, 0) from by unfold scanEnd; simp [q1, q2, q4]] at H
                simp only [Prod.mk.injEq] at H
                obtain ⟨rfl, rfl, rfl⟩ := H
                go_wp2_with (go_at_call 28; refine (scan_digit a0 i (by omega) hs _ _ (by first | assumption | simp) false C7'.out).mono ?_; rintro e w' ⟨rfl, rfl⟩)
                rw [exFwd_ret]
                go_ret3
                exact ⟨rfl, below_alloc (Below.refl _ _) _⟩
        · have q1b : (bt a0 a1 == 48) = false := beq_eq_false_iff_ne.mpr q1
          by_cases q4 : i < (a0.size : Int)
          · have hxi := bt_at a0 i
            by_cases q5 : bt a0 i = 46
            · have q5b : (bt a0 i == 46) = true := beq_iff_eq.mpr q5
              have H := HE.out
              clear HE
              rw [show scanEnd a0 a1 (a1) n i o = (0, 0, 12) from by unfold scanEnd; simp [q1, q4, q5]] at H
              simp only [Prod.mk.injEq] at H
              obtain ⟨rfl, rfl, rfl⟩ := H
              go_wp2_with (go_at_call 28; refine (scan_digit a0 i (by omega) hs _ _ (by first | assumption | simp) false C7'.out).mono ?_; rintro e w' ⟨rfl, rfl⟩)
              go_step3
              refine exFwd_goto ?_
              go_wp2
              rw [Exit.noGoto_ret]
              go_ret3
              exact ⟨rfl, below_alloc (Below.refl _ _) _⟩
            · have q5b : (bt a0 i == 46) = false := beq_eq_false_iff_ne.mpr q5
              by_cases q6 : bt a0 i = 101
              · have q6b : (bt a0 i == 101) = true := beq_iff_eq.mpr q6
                have H := HE.out
                clear HE
                rw [show scanEnd a0 a1 (a1) n i o = (0, 0, 12) from by unfold scanEnd; simp [q1, q4, q5, q6]] at H
                simp only [Prod.mk.injEq] at H
                obtain ⟨rfl, rfl, rfl⟩ := H
                go_wp2_with (go_at_call 28; refine (scan_digit a0 i (by omega) hs _ _ (by first | assumption | simp) false C7'.out).mono ?_; rintro e w' ⟨rfl, rfl⟩)
                go_step3
                refine exFwd_goto ?_
                go_wp2
                rw [Exit.noGoto_ret]
                go_ret3
                exact ⟨rfl, below_alloc (Below.refl _ _) _⟩
              · have q6b : (bt a0 i == 101) = false := beq_eq_false_iff_ne.mpr q6
                by_cases q7 : bt a0 i = 69
                · have q7b : (bt a0 i == 69) = true := beq_iff_eq.mpr q7
                  have H := HE.out
                  clear HE
                  rw [show scanEnd a0 a1 (a1) n i o = (0, 0, 12) from by unfold scanEnd; simp [q1, q4, q5, q6, q7]] at H
                  simp only [Prod.mk.injEq] at H
                  obtain ⟨rfl, rfl, rfl⟩ := H
                  go_wp2_with (go_at_call 28; refine (scan_digit a0 i (by omega) hs _ _ (by first | assumption | simp) false C7'.out).mono ?_; rintro e w' ⟨rfl, rfl⟩)
                  go_step3
                  refine exFwd_goto ?_
                  go_wp2
                  rw [Exit.noGoto_ret]
                  go_ret3
                  exact ⟨rfl, below_alloc (Below.refl _ _) _⟩
                · have q7b : (bt a0 i == 69) = false := beq_eq_false_iff_ne.mpr q7
                  cases o with
                  | true =>
                    have H := HE.out
                    clear HE
                    rw [show scanEnd a0 a1 (a1) n i true = (0, 0, 2) from by unfold scanEnd; simp [q1, q4, q5, q6, q7]] at H
                    simp only [Prod.mk.injEq] at H
                    obtain ⟨rfl, rfl, rfl⟩ := H
                    go_wp2_with (go_at_call 28; refine (scan_digit a0 i (by omega) hs _ _ (by first | assumption | simp) false C7'.out).mono ?_; rintro e w' ⟨rfl, rfl⟩)
                    go_step3
                    refine exFwd_goto ?_
                    go_wp2
                    rw [Exit.noGoto_ret]
                    go_ret3
                    exact ⟨rfl, below_alloc (Below.refl _ _) _⟩
                  | false =>
                    have H := HE.out
                    clear HE
                    rw [show scanEnd a0 a1 (a1) n i false = (n, i, 0) from by unfold scanEnd; simp [q1, q4, q5, q6, q7]] at H
                    simp only [Prod.mk.injEq] at H
                    obtain ⟨rfl, rfl, rfl⟩ := H
                    go_wp2_with (go_at_call 28; refine (scan_digit a0 i (by omega) hs _ _ (by first | assumption | simp) false C7'.out).mono ?_; rintro e w' ⟨rfl, rfl⟩)
                    rw [exFwd_ret]
                    go_ret3
                    exact ⟨rfl, below_alloc (Below.refl _ _) _⟩
          · skip
            cases o with
            | true =>
              have H := HE.out
              clear HE
              rw [show scanEnd a0 a1 (a1) n i true = (0, 0, 2) from by unfold scanEnd; simp [q1, q4]] at H
              simp only [Prod.mk.injEq] at H
              obtain ⟨rfl, rfl, rfl⟩ := H
              go_wp2_with (go_at_call 28; refine (scan_digit a0 i (by omega) hs _ _ (by first | assumption | simp) false C7'.out).mono ?_; rintro e w' ⟨rfl, rfl⟩)
              go_step3
              refine exFwd_goto ?_
              go_wp2
              rw [Exit.noGoto_ret]
              go_ret3
              exact ⟨rfl, below_alloc (Below.refl _ _) _⟩
            | false =>
              have H := HE.out
              clear HE
              rw [show scanEnd a0 a1 (a1) n i false = (n, i, 0) from by unfold scanEnd; simp [q1, q4]] at H
              simp only [Prod.mk.injEq] at H
              obtain ⟨rfl, rfl, rfl⟩ := H
              go_wp2_with (go_at_call 28; refine (scan_digit a0 i (by omega) hs _ _ (by first | assumption | simp) false C7'.out).mono ?_; rintro e w' ⟨rfl, rfl⟩)
              rw [exFwd_ret]
              go_ret3
              exact ⟨rfl, below_alloc (Below.refl _ _) _⟩
end Go.Proofs.Ytjdgjifacdnkgaa.X
end
section
namespace Go.Proofs
open Go.Shelf
def Try.lays99_ren : Go.Shelf.Ren := ⟨fun | 99 => 17 | 206 => 25 | n => n, fun | 9 => 9 | 4 => 4 | 3 => 3 | n => n, fun | n => n⟩
theorem Try.lays99 : Go.Proofs.Lays.n99 Try.prog Try.lays99_ren := {
  mixed := by kernel_rfl
  f99 := Try.func17.trans (congrArg some (by kernel_rfl))
  f206 := Try.func25.trans (congrArg some (by kernel_rfl))
  t3 := Try.underlying3
  a3 := Try.isAgg3
  z3 := Try.sizeOf3
  v3 := Try.zeroValue3
  t4 := Try.underlying4
  a4 := Try.isAgg4
  z4 := Try.sizeOf4
  v4 := Try.zeroValue4
  t9 := Try.underlying9
  a9 := Try.isAgg9
  z9 := Try.sizeOf9
  v9 := Try.zeroValue9 }
open Go.RowKit Go.Lib in
theorem Try.strings_HasPrefix (s p : ByteArray) (w : World) :
    Calls Try.prog 17 #[.string s, .string p] w fun e w' => e = .returned (.bool (Lib.hasPrefix s.data.toList p.data.toList)) ∧ w' = w := Any.strings_HasPrefix Try.lays99 s p w
end Go.Proofs
end
section
namespace Go.Proofs.Ytjdgjifacdnkgaa.X
open Go.RowKit Go.Proofs.YtjdgjifacdnkgaaW.PrintWords Go.Proofs.YtjdgjifacdnkgaaW.PrintLast Go.Proofs.YtjdgjifacdnkgaaW.PrintMore
attribute [local go_sem] max2_int min2_int max_two min_two max_three min_three max_four min_four
set_option linter.unusedVariables false
set_option linter.unusedSimpArgs false
def lex_blank.f (a0 : Int) : Option (Bool) := if a0 = 9 then (some true) else (if a0 = 10 then (some true) else (if a0 = 13 then (some true) else (some (a0 == 32))))
set_option maxHeartbeats 8000000 in
set_option maxRecDepth 100000 in
theorem lex_blank.calls (a0 : Int) (r : Bool) (w : World) (h : lex_blank.f a0 = some r) :
    Calls Try.prog 13 #[.int .u8 a0] w fun e w' => e = .returned (.bool r) ∧ Drawn0 w w' := by
  have H : (if a0 = 9 then (some true) else (if a0 = 10 then (some true) else (if a0 = 13 then (some true) else (some (a0 == 32))))) = some r := h
  clear h
  by_cases c2 : a0 = 9
  · rw [if_pos c2] at H
    have c2b0 : (a0 == 9) = true := beq_iff_eq.mpr c2
    have c2b1 : (a0 != 9) = false := bne_eq_false_iff_eq.mpr c2
    clear c2
    obtain rfl := Option.some.inj H
    go_enter Try.func13, Try.ntmps13
    go_wp2
    go_ret
    exact ⟨by first | rfl | (simp; done) | (simp [*]; done), by repeat (first | exact Drawn0.refl _ | apply Drawn0.step)⟩
  · rw [if_neg c2] at H
    have c2b0 : (a0 == 9) = false := beq_eq_false_iff_ne.mpr c2
    have c2b1 : (a0 != 9) = true := bne_iff_ne.mpr c2
    by_cases c3 : a0 = 10
    · rw [if_pos c3] at H
      have c3b0 : (a0 == 10) = true := beq_iff_eq.mpr c3
      have c3b1 : (a0 != 10) = false := bne_eq_false_iff_eq.mpr c3
      clear c3
      obtain rfl := Option.some.inj H
      go_enter Try.func13, Try.ntmps13
      go_wp2
      go_ret
      exact ⟨by first | rfl | (simp; done) | (simp [*]; done), by repeat (first | exact Drawn0.refl _ | apply Drawn0.step)⟩
    · rw [if_neg c3] at H
      have c3b0 : (a0 == 10) = false := beq_eq_false_iff_ne.mpr c3
      have c3b1 : (a0 != 10) = true := bne_iff_ne.mpr c3
      by_cases c4 : a0 = 13
      · rw [if_pos c4] at H
        have c4b0 : (a0 == 13) = true := beq_iff_eq.mpr c4
        have c4b1 : (a0 != 13) = false := bne_eq_false_iff_eq.mpr c4
        clear c4
        obtain rfl := Option.some.inj H
        go_enter Try.func13, Try.ntmps13
        go_wp2
        go_ret
        exact ⟨by first | rfl | (simp; done) | (simp [*]; done), by repeat (first | exact Drawn0.refl _ | apply Drawn0.step)⟩
      · rw [if_neg c4] at H
        have c4b0 : (a0 == 13) = false := beq_eq_false_iff_ne.mpr c4
        have c4b1 : (a0 != 13) = true := bne_iff_ne.mpr c4
        obtain rfl := Option.some.inj H
        go_enter Try.func13, Try.ntmps13
        go_wp2
        go_ret
        exact ⟨by first | rfl | (simp; done) | (simp [*]; done), by repeat (first | exact Drawn0.refl _ | apply Drawn0.step)⟩
end Go.Proofs.Ytjdgjifacdnkgaa.X
end
section
namespace Go.Proofs.Ytjdgjifacdnkgaa.X
open Go.RowKit Go.Proofs.YtjdgjifacdnkgaaW.PrintWords Go.Proofs.YtjdgjifacdnkgaaW.PrintLast Go.Proofs.YtjdgjifacdnkgaaW.PrintMore
set_option linter.unusedVariables false
set_option linter.unusedSimpArgs false
theorem tkV_zero : tkV 0 = .agg #[.int .i64 0, .int .i64 0, .int .i64 0, .int .i64 0, .string ⟨#[]⟩] := rfl
theorem nameS_size (k : Int) : (nameS k).size ≤ 5 := by
  unfold nameS
  split
  · decide
  · split
    · decide
    · split <;> decide
def blankI (c : Int) : Bool := decide (c = 9) || (decide (c = 10) || (decide (c = 13) || decide (c = 32)))
theorem blank_f (c : Int) : lex_blank.f c = some (blankI c) := by
  unfold lex_blank.f blankI
  by_cases h1 : c = 9
  · simp [h1]
  · by_cases h2 : c = 10
    · simp [h2]
    · by_cases h3 : c = 13
      · simp [h3]
      · by_cases h4 : c = 32
        · simp [h4]
        · simp [h1, h2, h3, h4]
def skipP (t : ByteArray) : Nat → Int → Int
  | 0, a => a
  | k + 1, a => if a < (t.size : Int) then (if blankI (bt t a) = true then skipP t k (a + 1) else a) else a
def preP (t : ByteArray) (a : Int) (s : ByteArray) : Bool := Lib.hasPrefix (t.extract a.toNat t.size).data.toList s.data.toList
def failP (a e : Int) : Int × Int × Int × Int × ByteArray × Int := (0, a, 0, 0, ⟨#[]⟩, e)
def tokP (t : ByteArray) (a : Int) : Int × Int × Int × Int × ByteArray × Int :=
  if a = (t.size : Int) then (12, a, a, 0, ⟨#[]⟩, 0) else
  match signP (bt t a) with
  | some k => (k, a, a + 1, 0, ⟨#[]⟩, 0)
  | none => match nameP (bt t a) with
    | some k => if preP t a (nameS k) = true then (k, a, a + ((nameS k).size : Int), 0, ⟨#[]⟩, 0) else failP a 6
    | none => if bt t a = 34 then (match unqP t a with | (s, b, e) => if e = 0 then (10, a, b, 0, s, 0) else failP a e)
      else if bt t a = 45 ∨ (48 ≤ bt t a ∧ bt t a ≤ 57) then (match numScan t a with | (n, b, e) => if e = 0 then (11, a, b, n, ⟨#[]⟩, 0) else failP a e)
      else failP a 6
def nextP (t : ByteArray) (a : Int) : Int × Int × Int × Int × ByteArray × Int :=
  if a < 0 then failP 0 1 else if a > (t.size : Int) then failP 0 1 else tokP t (skipP t (t.size + 1) a)
def lex_Next.f (t : ByteArray) (a : Int) : Option (Int × Int × Int × Int × ByteArray × Int) := if t.size ≤ 35184372080000 then some (nextP t a) else none
structure LX (w : World) (a : Int) (W : World) : Prop where
  c0 : W.cell? ⟨w.heap.size, 0, none⟩ = some (.int .i64 a)
  f0 : W.frozen? ⟨w.heap.size, 0, none⟩ = false
  z : W.heap[w.heap.size + 1]? = some (.cells (tkC 0 0 0 0 ⟨#[]⟩) 24 (0, 0))
  B : Below w.heap.size w W
theorem LX.start (w : World) (a : Int) : LX w a ((w.alloc (.cells #[.int .i64 a] 3)).alloc (.cells (tkC 0 0 0 0 ⟨#[]⟩) 24)) := by
  have h1 := boxv w (.int .i64 a) 3
  refine ⟨boxv_cell _ h1.1, boxv_frozen _ h1.1 h1.2, ?_, below_alloc (below_alloc (Below.refl _ w) _) _⟩
  simpa using heap_alloc_new (w.alloc (.cells #[.int .i64 a] 3)) (.cells (tkC 0 0 0 0 ⟨#[]⟩) 24)
theorem LX.drewN {w W : World} {a : Int} (h : LX w a W) (n : Nat) : LX w a (W.drewN n) := ⟨h.c0, h.f0, h.z, below_drewN h.B n⟩
theorem LX.step {w W W1 : World} {a : Int} (h : LX w a W) (hb : Below W.heap.size W W1) : LX w a W1 :=
  ⟨pw_cell_below hb h.c0, (hb.frozen (World.block_lt_of_cell? _ _ h.c0)).trans h.f0, blk_below h.z hb, below_then h.B h.B.size hb⟩
theorem LX.set {w W : World} {a : Int} (h : LX w a W) (b : Int) : LX w b (W.setCell ⟨w.heap.size, 0, none⟩ (.int .i64 b)) :=
  ⟨World.cell?_setCell_same' _ _ _ (by rw [h.c0]; rfl), by rw [World.frozen?_setCell]; exact h.f0, (Below.heap_setCell W _ _ _ (by simp)).trans h.z, h.B.setCell (p := ⟨w.heap.size, 0, none⟩) (Nat.le_refl _) _⟩
theorem put5 {w : World} {g t : Nat} {u1 u2 u3 u4 u5 : Value} (h : w.heap[g]? = some (.cells #[u1, u2, u3, u4, u5] t (0, 0))) (v1 v2 v3 v4 v5 : Value) :
    (((((w.setCell ⟨g, 0, none⟩ v1).setCell ⟨g, 1, none⟩ v2).setCell ⟨g, 2, none⟩ v3).setCell ⟨g, 3, none⟩ v4).setCell ⟨g, 4, none⟩ v5).heap[g]? = some (.cells #[v1, v2, v3, v4, v5] t (0, 0)) := by
  have h1 : (w.setCell ⟨g, 0, none⟩ v1).heap[g]? = some (.cells #[v1, u2, u3, u4, u5] t (0, 0)) := blk_put h 0 v1 rfl
  have h2 : ((w.setCell ⟨g, 0, none⟩ v1).setCell ⟨g, 1, none⟩ v2).heap[g]? = some (.cells #[v1, v2, u3, u4, u5] t (0, 0)) := blk_put h1 1 v2 rfl
  have h3 : (((w.setCell ⟨g, 0, none⟩ v1).setCell ⟨g, 1, none⟩ v2).setCell ⟨g, 2, none⟩ v3).heap[g]? = some (.cells #[v1, v2, v3, u4, u5] t (0, 0)) := blk_put h2 2 v3 rfl
  have h4 : ((((w.setCell ⟨g, 0, none⟩ v1).setCell ⟨g, 1, none⟩ v2).setCell ⟨g, 2, none⟩ v3).setCell ⟨g, 3, none⟩ v4).heap[g]? = some (.cells #[v1, v2, v3, v4, u5] t (0, 0)) := blk_put h3 3 v4 rfl
  have h5 : (((((w.setCell ⟨g, 0, none⟩ v1).setCell ⟨g, 1, none⟩ v2).setCell ⟨g, 2, none⟩ v3).setCell ⟨g, 3, none⟩ v4).setCell ⟨g, 4, none⟩ v5).heap[g]? = some (.cells #[v1, v2, v3, v4, v5] t (0, 0)) := blk_put h4 4 v5 rfl
  exact h5
theorem set5_below {w0 w : World} {g : Nat} (h : Below w0.heap.size w0 w) (hg : w0.heap.size ≤ g) (v1 v2 v3 v4 v5 : Value) : Below w0.heap.size w0 (((((w.setCell ⟨g, 0, none⟩ v1).setCell ⟨g, 1, none⟩ v2).setCell ⟨g, 2, none⟩ v3).setCell ⟨g, 3, none⟩ v4).setCell ⟨g, 4, none⟩ v5) :=
  below_set (below_set (below_set (below_set (below_set h hg) hg) hg) hg) hg
theorem LX.alloc {w W : World} {a : Int} (h : LX w a W) (o : Obj) : LX w a (W.alloc o) := h.step (below_alloc (Below.refl _ W) o)
theorem LX.drew {w W : World} {a : Int} (h : LX w a W) : LX w a W.drew := h.drewN 1
theorem LX.z0 {w W : World} {a : Int} (h : LX w a W) : W.cell? ⟨w.heap.size + 1, 0, none⟩ = some (.int .i64 0) := (blk_cell h.z 0).trans rfl
theorem LX.y0 {w W : World} {a : Int} (h : LX w a W) : W.frozen? ⟨w.heap.size + 1, 0, none⟩ = false := blk_frozen h.z 0
theorem LX.z1 {w W : World} {a : Int} (h : LX w a W) : W.cell? ⟨w.heap.size + 1, 1, none⟩ = some (.int .i64 0) := (blk_cell h.z 1).trans rfl
theorem LX.y1 {w W : World} {a : Int} (h : LX w a W) : W.frozen? ⟨w.heap.size + 1, 1, none⟩ = false := blk_frozen h.z 1
theorem LX.z2 {w W : World} {a : Int} (h : LX w a W) : W.cell? ⟨w.heap.size + 1, 2, none⟩ = some (.int .i64 0) := (blk_cell h.z 2).trans rfl
theorem LX.y2 {w W : World} {a : Int} (h : LX w a W) : W.frozen? ⟨w.heap.size + 1, 2, none⟩ = false := blk_frozen h.z 2
theorem LX.z3 {w W : World} {a : Int} (h : LX w a W) : W.cell? ⟨w.heap.size + 1, 3, none⟩ = some (.int .i64 0) := (blk_cell h.z 3).trans rfl
theorem LX.y3 {w W : World} {a : Int} (h : LX w a W) : W.frozen? ⟨w.heap.size + 1, 3, none⟩ = false := blk_frozen h.z 3
theorem LX.z4 {w W : World} {a : Int} (h : LX w a W) : W.cell? ⟨w.heap.size + 1, 4, none⟩ = some (.string ⟨#[]⟩) := (blk_cell h.z 4).trans rfl
theorem LX.y4 {w W : World} {a : Int} (h : LX w a W) : W.frozen? ⟨w.heap.size + 1, 4, none⟩ = false := blk_frozen h.z 4
set_option maxHeartbeats 16000000 in
set_option maxRecDepth 100000 in
theorem lex_Next.calls (a0 : ByteArray) (a1 : Int) (r1 r2 r3 r4 : Int) (r5 : ByteArray) (r6 : Int) (w : World) (h : lex_Next.f a0 a1 = some (r1, r2, r3, r4, r5, r6)) :
    Calls Try.prog 7 #[.string a0, .int .i64 a1] w fun e w' => e = .returned (.tuple #[.agg #[.int .i64 r1, .int .i64 r2, .int .i64 r3, .int .i64 r4, .string r5], .int .i64 r6]) ∧ Below w.heap.size w w' := by
  unfold lex_Next.f at h
  by_cases hs : a0.size ≤ 35184372080000
  case neg => rw [if_neg hs] at h; cases h
  rw [if_pos hs] at h
  have H : nextP a0 a1 = (r1, r2, r3, r4, r5, r6) := Option.some.inj h
  clear h
  have hs2 : a0.size ≤ 140737488351232 := by omega
  have hmf : ∀ (fn : Fn) (first cap : Array Value) (w : World), (Instr.makeFunc fn first cap).run Try.prog w = .ok (.func fn first cap) w := fun _ _ _ _ => rfl
  have hu := Try.underlying24
  have L0 := Aside0.mk (LX.start w a1)
  have q0 := L0.out.c0
  have q1 := L0.out.f0
  have z0 := LX.z0 L0.out
  have y0 := LX.y0 L0.out
  have z1 := LX.z1 L0.out
  have y1 := LX.y1 L0.out
  have z2 := LX.z2 L0.out
  have y2 := LX.y2 L0.out
  have z3 := LX.z3 L0.out
  have y3 := LX.y3 L0.out
  have z4 := LX.z4 L0.out
  have y4 := LX.y4 L0.out
  unfold nextP at H
  by_cases c1 : a1 < 0
  · rw [if_pos c1] at H
    simp only [failP, Prod.mk.injEq] at H
    obtain ⟨rfl, rfl, rfl, rfl, rfl, rfl⟩ := H
    go_enter Try.func7, Try.ntmps7
    go_wp2
    refine bodyPost_ret (results_ct rfl _ _ (w.heap.size + 1) 24 (tkC 0 0 0 0 ⟨#[]⟩) (0, 0) _ rfl L0.out.z hu rfl (by kernel_rfl)) rfl ?_
    exact ⟨by simp, L0.out.B⟩
  rw [if_neg c1] at H
  have d1 := c1
  clear c1
  by_cases c1 : a1 > (a0.size : Int)
  · rw [if_pos c1] at H
    simp only [failP, Prod.mk.injEq] at H
    obtain ⟨rfl, rfl, rfl, rfl, rfl, rfl⟩ := H
    go_enter Try.func7, Try.ntmps7
    go_wp2
    refine bodyPost_ret (results_ct rfl _ _ (w.heap.size + 1) 24 (tkC 0 0 0 0 ⟨#[]⟩) (0, 0) _ rfl L0.out.z hu rfl (by kernel_rfl)) rfl ?_
    exact ⟨by simp, L0.out.B⟩
  rw [if_neg c1] at H
  have d2 := c1
  clear c1
  have HR := Aside0.mk H
  clear H
  go_enter Try.func7, Try.ntmps7
  go_wp2_with fail
  go_loopg [] (a0.size + 1) (fun kq W => ∃ a : Int, Aside0 (LX w a W) ∧ Aside0 (0 ≤ a) ∧ Aside0 (a ≤ (a0.size : Int)) ∧ Aside0 ((a0.size : Int) < kq + a) ∧ Aside0 (tokP a0 (skipP a0 kq a) = (r1, r2, r3, r4, r5, r6)))
  case atStart => exact ⟨a1, L0, ⟨by omega⟩, ⟨by omega⟩, ⟨by omega⟩, HR⟩
  case round =>
    clear L0 HR q0 q1 z0 z1 z2 z3 z4 y0 y1 y2 y3 y4
    obtain ⟨W, rfl⟩ : ∃ W : World, W = wr := ⟨_, rfl⟩
    obtain ⟨a, L0, ⟨h0⟩, ⟨h1⟩, ⟨hk⟩, HR⟩ := hrel
    have q0 := L0.out.c0
    have q1 := L0.out.f0
    have z0 := LX.z0 L0.out
    have y0 := LX.y0 L0.out
    have z1 := LX.z1 L0.out
    have y1 := LX.y1 L0.out
    have z2 := LX.z2 L0.out
    have y2 := LX.y2 L0.out
    have z3 := LX.z3 L0.out
    have y3 := LX.y3 L0.out
    have z4 := LX.z4 L0.out
    have y4 := LX.y4 L0.out
    have hx := bt_at a0 a
    have hbt := bt_range a0 a
    cases gk with
    | zero => omega
    | succ k1 =>
      have H := HR.out
      clear HR
      rw [skipP] at H
      by_cases c1 : a < (a0.size : Int)
      case neg =>
        rw [if_neg c1, tokP, if_pos (by omega)] at H
        obtain rfl : a = (a0.size : Int) := by omega
        simp only [Prod.mk.injEq] at H
        obtain ⟨rfl, rfl, rfl, rfl, rfl, rfl⟩ := H
        clear hx c1 hk h1 d1 d2
        go_wp2
        refine bodyPost_ret (results_ct rfl _ _ (w.heap.size + 1) 24 (tkC 12 (a0.size : Int) (a0.size : Int) 0 ⟨#[]⟩) (0, 0) _ rfl (put5 L0.out.z _ _ _ _ _) hu rfl (by kernel_rfl)) rfl ?_
        exact ⟨by simp [tkC], set5_below L0.out.B (by omega) _ _ _ _ _⟩
      rw [if_pos c1] at H
      by_cases c2 : blankI (bt a0 a) = true
      case pos =>
        rw [if_pos c2] at H
        have HR := Aside0.mk H
        clear H
        go_wp2_with (go_at_call 13; with_reducible refine (lex_blank.calls _ _ _ (blank_f _)).mono ?_; rintro e w1 ⟨rfl, hd⟩; obtain ⟨⟨nd, rfl⟩⟩ := hd; have L1 := Aside0.mk (LX.drewN L0.out nd); have q3 := L1.out.c0; have q4 := L1.out.f0; clear q0 q1)
        go_roundg k1
        case measure => omega
        case rel => exact ⟨_, ⟨L1.out.set _⟩, ⟨by omega⟩, ⟨by omega⟩, ⟨by omega⟩, HR⟩
      clear z0 z1 z2 z3 z4 y0 y1 y2 y3 y4
      rw [if_neg c2, tokP, if_neg (by omega)] at H
      have c2b := Bool.eq_false_iff.mpr c2
      clear c2
      cases hsg : signP (bt a0 a) with
      | some k =>
        rw [hsg] at H
        simp only [Prod.mk.injEq] at H
        obtain ⟨rfl, rfl, rfl, rfl, rfl, rfl⟩ := H
        go_wp2_with (first | (go_at_call 13; with_reducible refine (lex_blank.calls _ _ _ (blank_f _)).mono ?_; rintro e w1 ⟨rfl, hd⟩; obtain ⟨⟨nd, rfl⟩⟩ := hd; have L1 := Aside0.mk (LX.drewN L0.out nd); have q3 := L1.out.c0; have q4 := L1.out.f0; clear q0 q1) | (go_at_call 15; with_reducible refine (lex_signs.calls _).mono ?_; rintro e w2 ⟨b2, rfl, ho2, hb2⟩; have L2 := Aside0.mk (L1.out.step hb2); have l2 := sign_look ho2 hbt.1 hbt.2; rw [hsg] at l2; simp only [Option.getD_some, Option.isSome_some] at l2; clear hb2 ho2; have q6 := L2.out.c0; have q7 := L2.out.f0; have z0 := LX.z0 L2.out; have y0 := LX.y0 L2.out; have z1 := LX.z1 L2.out; have y1 := LX.y1 L2.out; have z2 := LX.z2 L2.out; have y2 := LX.y2 L2.out; have z3 := LX.z3 L2.out; have y3 := LX.y3 L2.out; have z4 := LX.z4 L2.out; have y4 := LX.y4 L2.out; clear q3 q4))
        refine bodyPost_ret (results_ct rfl _ _ (w.heap.size + 1) 24 (tkC k a (a + 1) 0 ⟨#[]⟩) (0, 0) _ rfl (put5 L2.out.z _ _ _ _ _) hu rfl (by kernel_rfl)) rfl ?_
        exact ⟨by simp [tkC], set5_below L2.out.B (by omega) _ _ _ _ _⟩
      | none =>
        rw [hsg] at H
        simp only at H
        cases hnm : nameP (bt a0 a) with
        | some k =>
          rw [hnm] at H
          simp only at H
          by_cases c3 : preP a0 a (nameS k) = true
          case neg =>
            rw [if_neg c3] at H
            have c3b := Bool.eq_false_iff.mpr c3
            clear c3
            simp only [failP, Prod.mk.injEq] at H
            obtain ⟨rfl, rfl, rfl, rfl, rfl, rfl⟩ := H
            go_wp2_with (first | (go_at_call 13; with_reducible refine (lex_blank.calls _ _ _ (blank_f _)).mono ?_; rintro e w1 ⟨rfl, hd⟩; obtain ⟨⟨nd, rfl⟩⟩ := hd; have L1 := Aside0.mk (LX.drewN L0.out nd); have q3 := L1.out.c0; have q4 := L1.out.f0; clear q0 q1) | (go_at_call 15; with_reducible refine (lex_signs.calls _).mono ?_; rintro e w2 ⟨b2, rfl, ho2, hb2⟩; have L2 := Aside0.mk (L1.out.step hb2); have l2 := sign_look ho2 hbt.1 hbt.2; rw [hsg] at l2; simp only [Option.getD_none, Option.isSome_none] at l2; clear hb2 ho2; have q6 := L2.out.c0; have q7 := L2.out.f0; have z0 := LX.z0 L2.out; have y0 := LX.y0 L2.out; have z1 := LX.z1 L2.out; have y1 := LX.y1 L2.out; have z2 := LX.z2 L2.out; have y2 := LX.y2 L2.out; have z3 := LX.z3 L2.out; have y3 := LX.y3 L2.out; have z4 := LX.z4 L2.out; have y4 := LX.y4 L2.out; clear q3 q4) | (go_at_call 16; with_reducible refine (lex_names.calls _).mono ?_; rintro e w3 ⟨b3, rfl, ho3, hb3⟩; have L3 := Aside0.mk (L2.out.step hb3); have l3 := name_look ho3 hbt.1 hbt.2; rw [hnm] at l3; simp only [Option.getD_some, Option.isSome_some, tkV] at l3; clear hb3 ho3 z0 z1 z2 z3 z4 y0 y1 y2 y3 y4; have q9 := LX.c0 (LX.alloc L3.out (.cells (tkC k 0 0 0 (nameS k)) 24)); have z0 := LX.z0 L3.out; have y0 := LX.y0 L3.out; have z1 := LX.z1 L3.out; have y1 := LX.y1 L3.out; have z2 := LX.z2 L3.out; have y2 := LX.y2 L3.out; have z3 := LX.z3 L3.out; have y3 := LX.y3 L3.out; have z4 := LX.z4 L3.out; have y4 := LX.y4 L3.out; clear q6 q7))
            unfold preP at c3b
            have T4 := Aside0.mk (LX.alloc L3.out (.cells (tkC k 0 0 0 (nameS k)) 24))
            have U4 : Aside0 ((w3.alloc (.cells (tkC k 0 0 0 (nameS k)) 24)).heap[w3.heap.size]? = some (.cells (tkC k 0 0 0 (nameS k)) 24 (0, 0))) := ⟨blk_new _ _⟩
            have p0 := T4.out.c0
            have p1 := T4.out.f0
            have p4 : (w3.alloc (.cells (tkC k 0 0 0 (nameS k)) 24)).cell? ⟨w3.heap.size, 4, none⟩ = some (.string (nameS k)) := (blk_cell U4.out 4).trans rfl
            go_region_held3 (fun w' => w'.cell? ⟨w.heap.size, 0, none⟩ = some (.int .i64 a) ∧ w'.cell? ⟨w3.heap.size, 4, none⟩ = some (.string (nameS k)) ∧ Aside0 (LX w a w') ∧ Aside0 (w'.heap[w3.heap.size]? = some (.cells (tkC k 0 0 0 (nameS k)) 24 (0, 0)))) (first | exact ⟨p0, p4, T4, U4⟩ | exact ⟨p0, p4, ⟨T4.out.drewN 1⟩, U4⟩) ((go_at_call 17; with_reducible refine (Try.strings_HasPrefix _ _ _).mono ?_; rintro e w5 ⟨rfl, hw5⟩; subst hw5; rw [c3b]))
            clear p0 p1 p4 q9 z0 z1 z2 z3 z4 y0 y1 y2 y3 y4
            skip
            go_wp2_with (go_at_call 14; with_reducible refine (lex_fails 6 a _ _ (LX.c0 (LX.drew (LX.alloc L3.out _)))).mono ?_; rintro e w5 ⟨rfl, hb5⟩; have L5 := Aside0.mk ((LX.drew (LX.alloc L3.out _)).step hb5); have z0 := LX.z0 L5.out; have y0 := LX.y0 L5.out; have z1 := LX.z1 L5.out; have y1 := LX.y1 L5.out; have z2 := LX.z2 L5.out; have y2 := LX.y2 L5.out; have z3 := LX.z3 L5.out; have y3 := LX.y3 L5.out; have z4 := LX.z4 L5.out; have y4 := LX.y4 L5.out; clear hb5)
            refine bodyPost_ret (results_ct rfl _ _ (w.heap.size + 1) 24 (tkC 0 a 0 0 ⟨#[]⟩) (0, 0) _ rfl (put5 L5.out.z _ _ _ _ _) hu rfl (by kernel_rfl)) rfl ?_
            exact ⟨by simp [tkC], set5_below L5.out.B (by omega) _ _ _ _ _⟩
          case pos =>
            rw [if_pos c3] at H
            simp only [failP, Prod.mk.injEq] at H
            obtain ⟨rfl, rfl, rfl, rfl, rfl, rfl⟩ := H
            go_wp2_with (first | (go_at_call 13; with_reducible refine (lex_blank.calls _ _ _ (blank_f _)).mono ?_; rintro e w1 ⟨rfl, hd⟩; obtain ⟨⟨nd, rfl⟩⟩ := hd; have L1 := Aside0.mk (LX.drewN L0.out nd); have q3 := L1.out.c0; have q4 := L1.out.f0; clear q0 q1) | (go_at_call 15; with_reducible refine (lex_signs.calls _).mono ?_; rintro e w2 ⟨b2, rfl, ho2, hb2⟩; have L2 := Aside0.mk (L1.out.step hb2); have l2 := sign_look ho2 hbt.1 hbt.2; rw [hsg] at l2; simp only [Option.getD_none, Option.isSome_none] at l2; clear hb2 ho2; have q6 := L2.out.c0; have q7 := L2.out.f0; have z0 := LX.z0 L2.out; have y0 := LX.y0 L2.out; have z1 := LX.z1 L2.out; have y1 := LX.y1 L2.out; have z2 := LX.z2 L2.out; have y2 := LX.y2 L2.out; have z3 := LX.z3 L2.out; have y3 := LX.y3 L2.out; have z4 := LX.z4 L2.out; have y4 := LX.y4 L2.out; clear q3 q4) | (go_at_call 16; with_reducible refine (lex_names.calls _).mono ?_; rintro e w3 ⟨b3, rfl, ho3, hb3⟩; have L3 := Aside0.mk (L2.out.step hb3); have l3 := name_look ho3 hbt.1 hbt.2; rw [hnm] at l3; simp only [Option.getD_some, Option.isSome_some, tkV] at l3; clear hb3 ho3 z0 z1 z2 z3 z4 y0 y1 y2 y3 y4; have q9 := LX.c0 (LX.alloc L3.out (.cells (tkC k 0 0 0 (nameS k)) 24)); have z0 := LX.z0 L3.out; have y0 := LX.y0 L3.out; have z1 := LX.z1 L3.out; have y1 := LX.y1 L3.out; have z2 := LX.z2 L3.out; have y2 := LX.y2 L3.out; have z3 := LX.z3 L3.out; have y3 := LX.y3 L3.out; have z4 := LX.z4 L3.out; have y4 := LX.y4 L3.out; clear q6 q7))
            have hns := nameS_size k
            have hw : wrap64 (a + ((nameS k).size : Int)) = a + ((nameS k).size : Int) := by unfold wrap64; omega
            unfold preP at c3
            have T4 := Aside0.mk (LX.alloc L3.out (.cells (tkC k 0 0 0 (nameS k)) 24))
            have U4 : Aside0 ((w3.alloc (.cells (tkC k 0 0 0 (nameS k)) 24)).heap[w3.heap.size]? = some (.cells (tkC k 0 0 0 (nameS k)) 24 (0, 0))) := ⟨blk_new _ _⟩
            have p0 := T4.out.c0
            have p1 := T4.out.f0
            have p4 : (w3.alloc (.cells (tkC k 0 0 0 (nameS k)) 24)).cell? ⟨w3.heap.size, 4, none⟩ = some (.string (nameS k)) := (blk_cell U4.out 4).trans rfl
            go_region_held3 (fun w' => w'.cell? ⟨w.heap.size, 0, none⟩ = some (.int .i64 a) ∧ w'.cell? ⟨w3.heap.size, 4, none⟩ = some (.string (nameS k)) ∧ Aside0 (LX w a w') ∧ Aside0 (w'.heap[w3.heap.size]? = some (.cells (tkC k 0 0 0 (nameS k)) 24 (0, 0)))) (first | exact ⟨p0, p4, T4, U4⟩ | exact ⟨p0, p4, ⟨T4.out.drewN 1⟩, U4⟩) ((go_at_call 17; with_reducible refine (Try.strings_HasPrefix _ _ _).mono ?_; rintro e w5 ⟨rfl, hw5⟩; subst hw5; rw [c3]))
            clear p0 p1 p4 q9 z0 z1 z2 z3 z4 y0 y1 y2 y3 y4
            skip
            have L5 := Aside0.mk (LX.drew T4.out)
            have q20 := L5.out.c0
            have q21 := L5.out.f0
            have z0 := LX.z0 L5.out
            have y0 := LX.y0 L5.out
            have z1 := LX.z1 L5.out
            have y1 := LX.y1 L5.out
            have z2 := LX.z2 L5.out
            have y2 := LX.y2 L5.out
            have z3 := LX.z3 L5.out
            have y3 := LX.y3 L5.out
            have z4 := LX.z4 L5.out
            have y4 := LX.y4 L5.out
            have V5 : Aside0 ((w3.alloc (.cells (tkC k 0 0 0 (nameS k)) 24)).drew.heap[w3.heap.size]? = some (.cells (tkC k 0 0 0 (nameS k)) 24 (0, 0))) := ⟨U4.out⟩
            have q22 := (blk_cell V5.out 0).trans rfl
            have q23 := (blk_cell V5.out 4).trans rfl
            have u0 := LX.z0 T4.out
            have v0 := LX.y0 T4.out
            have u1 := LX.z1 T4.out
            have v1 := LX.y1 T4.out
            have u2 := LX.z2 T4.out
            have v2 := LX.y2 T4.out
            have u3 := LX.z3 T4.out
            have v3 := LX.y3 T4.out
            have u4 := LX.z4 T4.out
            have v4 := LX.y4 T4.out
            have s0 := LX.z0 L3.out
            have t0 := LX.y0 L3.out
            have s1 := LX.z1 L3.out
            have t1 := LX.y1 L3.out
            have s2 := LX.z2 L3.out
            have t2 := LX.y2 L3.out
            have s3 := LX.z3 L3.out
            have t3 := LX.y3 L3.out
            have s4 := LX.z4 L3.out
            have t4 := LX.y4 L3.out
            go_wp2
            refine bodyPost_ret (results_ct rfl _ _ (w.heap.size + 1) 24 (tkC k a (a + ((nameS k).size : Int)) 0 ⟨#[]⟩) (0, 0) _ rfl (put5 T4.out.z _ _ _ _ _) hu rfl (by kernel_rfl)) rfl ?_
            exact ⟨by simp [tkC], (set5_below T4.out.B (by omega) _ _ _ _ _).drew⟩
        | none =>
          rw [hnm] at H
          simp only at H
          by_cases c4 : bt a0 a = 34
          case pos =>
            rw [if_pos c4] at H
            have c4b : (bt a0 a == 34) = true := by simp [c4]
            clear c4
            cases hun : unqP a0 a with | mk x1 x2 =>
            obtain ⟨x2, x3⟩ := x2
            rw [hun] at H
            simp only at H
            have HUN := Aside0.mk hun
            clear hun
            by_cases c8 : x3 = 0
            case pos =>
              rw [if_pos c8] at H
              subst c8
              simp only [Prod.mk.injEq] at H
              obtain ⟨rfl, rfl, rfl, rfl, rfl, rfl⟩ := H
              go_wp2_with (first | (go_at_call 13; with_reducible refine (lex_blank.calls _ _ _ (blank_f _)).mono ?_; rintro e w1 ⟨rfl, hd⟩; obtain ⟨⟨nd, rfl⟩⟩ := hd; have L1 := Aside0.mk (LX.drewN L0.out nd); have q3 := L1.out.c0; have q4 := L1.out.f0; clear q0 q1) | (go_at_call 15; with_reducible refine (lex_signs.calls _).mono ?_; rintro e w2 ⟨b2, rfl, ho2, hb2⟩; have L2 := Aside0.mk (L1.out.step hb2); have l2 := sign_look ho2 hbt.1 hbt.2; rw [hsg] at l2; simp only [Option.getD_none, Option.isSome_none] at l2; clear hb2 ho2; have q6 := L2.out.c0; have q7 := L2.out.f0; have z0 := LX.z0 L2.out; have y0 := LX.y0 L2.out; have z1 := LX.z1 L2.out; have y1 := LX.y1 L2.out; have z2 := LX.z2 L2.out; have y2 := LX.y2 L2.out; have z3 := LX.z3 L2.out; have y3 := LX.y3 L2.out; have z4 := LX.z4 L2.out; have y4 := LX.y4 L2.out; clear q3 q4) | (go_at_call 16; with_reducible refine (lex_names.calls _).mono ?_; rintro e w3 ⟨b3, rfl, ho3, hb3⟩; have L3 := Aside0.mk (L2.out.step hb3); have l3 := name_look ho3 hbt.1 hbt.2; rw [hnm] at l3; simp only [Option.getD_none, Option.isSome_none, tkV_zero] at l3; clear hb3 ho3 z0 z1 z2 z3 z4 y0 y1 y2 y3 y4; have q9 := LX.c0 (LX.alloc L3.out (.cells (tkC 0 0 0 0 ⟨#[]⟩) 24)); have z0 := LX.z0 L3.out; have y0 := LX.y0 L3.out; have z1 := LX.z1 L3.out; have y1 := LX.y1 L3.out; have z2 := LX.z2 L3.out; have y2 := LX.y2 L3.out; have z3 := LX.z3 L3.out; have y3 := LX.y3 L3.out; have z4 := LX.z4 L3.out; have y4 := LX.y4 L3.out; clear q6 q7) | (go_at_call 18; with_reducible refine (esc_Unquote.calls a0 a x1 x2 _ _ (by unfold esc_Unquote.f; rw [if_pos hs, HUN.out])).mono ?_; rintro e w6 ⟨rfl, hb6⟩; have L6 := Aside0.mk ((LX.alloc L3.out _).step hb6); clear hb6 q9 z0 z1 z2 z3 z4 y0 y1 y2 y3 y4; have q11 := L6.out.c0; have q12 := L6.out.f0; have z0 := LX.z0 L6.out; have y0 := LX.y0 L6.out; have z1 := LX.z1 L6.out; have y1 := LX.y1 L6.out; have z2 := LX.z2 L6.out; have y2 := LX.y2 L6.out; have z3 := LX.z3 L6.out; have y3 := LX.y3 L6.out; have z4 := LX.z4 L6.out; have y4 := LX.y4 L6.out))
              refine bodyPost_ret (results_ct rfl _ _ (w.heap.size + 1) 24 (tkC 10 a x2 0 x1) (0, 0) _ rfl (put5 L6.out.z _ _ _ _ _) hu rfl (by kernel_rfl)) rfl ?_
              exact ⟨by simp [tkC], set5_below L6.out.B (by omega) _ _ _ _ _⟩
            rw [if_neg c8] at H
            have c8b : (x3 == 0) = false := by simp [c8]
            have c8c : (x3 != 0) = true := by simp [c8]
            clear c8
            simp only [failP, Prod.mk.injEq] at H
            obtain ⟨rfl, rfl, rfl, rfl, rfl, rfl⟩ := H
            go_wp2_with (first | (go_at_call 13; with_reducible refine (lex_blank.calls _ _ _ (blank_f _)).mono ?_; rintro e w1 ⟨rfl, hd⟩; obtain ⟨⟨nd, rfl⟩⟩ := hd; have L1 := Aside0.mk (LX.drewN L0.out nd); have q3 := L1.out.c0; have q4 := L1.out.f0; clear q0 q1) | (go_at_call 15; with_reducible refine (lex_signs.calls _).mono ?_; rintro e w2 ⟨b2, rfl, ho2, hb2⟩; have L2 := Aside0.mk (L1.out.step hb2); have l2 := sign_look ho2 hbt.1 hbt.2; rw [hsg] at l2; simp only [Option.getD_none, Option.isSome_none] at l2; clear hb2 ho2; have q6 := L2.out.c0; have q7 := L2.out.f0; have z0 := LX.z0 L2.out; have y0 := LX.y0 L2.out; have z1 := LX.z1 L2.out; have y1 := LX.y1 L2.out; have z2 := LX.z2 L2.out; have y2 := LX.y2 L2.out; have z3 := LX.z3 L2.out; have y3 := LX.y3 L2.out; have z4 := LX.z4 L2.out; have y4 := LX.y4 L2.out; clear q3 q4) | (go_at_call 16; with_reducible refine (lex_names.calls _).mono ?_; rintro e w3 ⟨b3, rfl, ho3, hb3⟩; have L3 := Aside0.mk (L2.out.step hb3); have l3 := name_look ho3 hbt.1 hbt.2; rw [hnm] at l3; simp only [Option.getD_none, Option.isSome_none, tkV_zero] at l3; clear hb3 ho3 z0 z1 z2 z3 z4 y0 y1 y2 y3 y4; have q9 := LX.c0 (LX.alloc L3.out (.cells (tkC 0 0 0 0 ⟨#[]⟩) 24)); have z0 := LX.z0 L3.out; have y0 := LX.y0 L3.out; have z1 := LX.z1 L3.out; have y1 := LX.y1 L3.out; have z2 := LX.z2 L3.out; have y2 := LX.y2 L3.out; have z3 := LX.z3 L3.out; have y3 := LX.y3 L3.out; have z4 := LX.z4 L3.out; have y4 := LX.y4 L3.out; clear q6 q7) | (go_at_call 18; with_reducible refine (esc_Unquote.calls a0 a x1 x2 _ _ (by unfold esc_Unquote.f; rw [if_pos hs, HUN.out])).mono ?_; rintro e w6 ⟨rfl, hb6⟩; have L6 := Aside0.mk ((LX.alloc L3.out _).step hb6); clear hb6 q9 z0 z1 z2 z3 z4 y0 y1 y2 y3 y4; have q11 := L6.out.c0; have q12 := L6.out.f0; have z0 := LX.z0 L6.out; have y0 := LX.y0 L6.out; have z1 := LX.z1 L6.out; have y1 := LX.y1 L6.out; have z2 := LX.z2 L6.out; have y2 := LX.y2 L6.out; have z3 := LX.z3 L6.out; have y3 := LX.y3 L6.out; have z4 := LX.z4 L6.out; have y4 := LX.y4 L6.out) | (go_at_call 14; with_reducible refine (lex_fails x3 a _ _ q11).mono ?_; rintro e w5 ⟨rfl, hb5⟩; clear z0 z1 z2 z3 z4 y0 y1 y2 y3 y4; have L5 := Aside0.mk (L6.out.step hb5); have z0 := LX.z0 L5.out; have y0 := LX.y0 L5.out; have z1 := LX.z1 L5.out; have y1 := LX.y1 L5.out; have z2 := LX.z2 L5.out; have y2 := LX.y2 L5.out; have z3 := LX.z3 L5.out; have y3 := LX.y3 L5.out; have z4 := LX.z4 L5.out; have y4 := LX.y4 L5.out; clear hb5 q11 q12))
            refine bodyPost_ret (results_ct rfl _ _ (w.heap.size + 1) 24 (tkC 0 a 0 0 ⟨#[]⟩) (0, 0) _ rfl (put5 L5.out.z _ _ _ _ _) hu rfl (by kernel_rfl)) rfl ?_
            exact ⟨by simp [tkC], set5_below L5.out.B (by omega) _ _ _ _ _⟩
          rw [if_neg c4] at H
          have c4b : (bt a0 a == 34) = false := by simp [c4]
          clear c4
          by_cases c5 : bt a0 a = 45 ∨ (48 ≤ bt a0 a ∧ bt a0 a ≤ 57)
          case pos =>
            rw [if_pos c5] at H
            by_cases c6 : bt a0 a = 45
            · have c6b : (bt a0 a == 45) = true := by simp [c6]
              clear c6 c5
              cases hun : numScan a0 a with | mk x1 x2 =>
              obtain ⟨x2, x3⟩ := x2
              rw [hun] at H
              simp only at H
              have HUN := Aside0.mk hun
              clear hun
              by_cases c8 : x3 = 0
              case pos =>
                rw [if_pos c8] at H
                subst c8
                simp only [Prod.mk.injEq] at H
                obtain ⟨rfl, rfl, rfl, rfl, rfl, rfl⟩ := H
                go_wp2_with (first | (go_at_call 13; with_reducible refine (lex_blank.calls _ _ _ (blank_f _)).mono ?_; rintro e w1 ⟨rfl, hd⟩; obtain ⟨⟨nd, rfl⟩⟩ := hd; have L1 := Aside0.mk (LX.drewN L0.out nd); have q3 := L1.out.c0; have q4 := L1.out.f0; clear q0 q1) | (go_at_call 15; with_reducible refine (lex_signs.calls _).mono ?_; rintro e w2 ⟨b2, rfl, ho2, hb2⟩; have L2 := Aside0.mk (L1.out.step hb2); have l2 := sign_look ho2 hbt.1 hbt.2; rw [hsg] at l2; simp only [Option.getD_none, Option.isSome_none] at l2; clear hb2 ho2; have q6 := L2.out.c0; have q7 := L2.out.f0; have z0 := LX.z0 L2.out; have y0 := LX.y0 L2.out; have z1 := LX.z1 L2.out; have y1 := LX.y1 L2.out; have z2 := LX.z2 L2.out; have y2 := LX.y2 L2.out; have z3 := LX.z3 L2.out; have y3 := LX.y3 L2.out; have z4 := LX.z4 L2.out; have y4 := LX.y4 L2.out; clear q3 q4) | (go_at_call 16; with_reducible refine (lex_names.calls _).mono ?_; rintro e w3 ⟨b3, rfl, ho3, hb3⟩; have L3 := Aside0.mk (L2.out.step hb3); have l3 := name_look ho3 hbt.1 hbt.2; rw [hnm] at l3; simp only [Option.getD_none, Option.isSome_none, tkV_zero] at l3; clear hb3 ho3 z0 z1 z2 z3 z4 y0 y1 y2 y3 y4; have q9 := LX.c0 (LX.alloc L3.out (.cells (tkC 0 0 0 0 ⟨#[]⟩) 24)); have z0 := LX.z0 L3.out; have y0 := LX.y0 L3.out; have z1 := LX.z1 L3.out; have y1 := LX.y1 L3.out; have z2 := LX.z2 L3.out; have y2 := LX.y2 L3.out; have z3 := LX.z3 L3.out; have y3 := LX.y3 L3.out; have z4 := LX.z4 L3.out; have y4 := LX.y4 L3.out; clear q6 q7) | (go_at_call 19; with_reducible refine (num_Scan.calls a0 a x1 x2 _ _ (by unfold num_Scan.f; rw [if_pos hs2, HUN.out])).mono ?_; rintro e w6 ⟨rfl, hb6⟩; have L6 := Aside0.mk ((LX.alloc L3.out _).step hb6); clear hb6 q9 z0 z1 z2 z3 z4 y0 y1 y2 y3 y4; have q11 := L6.out.c0; have q12 := L6.out.f0; have z0 := LX.z0 L6.out; have y0 := LX.y0 L6.out; have z1 := LX.z1 L6.out; have y1 := LX.y1 L6.out; have z2 := LX.z2 L6.out; have y2 := LX.y2 L6.out; have z3 := LX.z3 L6.out; have y3 := LX.y3 L6.out; have z4 := LX.z4 L6.out; have y4 := LX.y4 L6.out))
                refine bodyPost_ret (results_ct rfl _ _ (w.heap.size + 1) 24 (tkC 11 a x2 x1 ⟨#[]⟩) (0, 0) _ rfl (put5 L6.out.z _ _ _ _ _) hu rfl (by kernel_rfl)) rfl ?_
                exact ⟨by simp [tkC], set5_below L6.out.B (by omega) _ _ _ _ _⟩
              rw [if_neg c8] at H
              have c8b : (x3 == 0) = false := by simp [c8]
              have c8c : (x3 != 0) = true := by simp [c8]
              clear c8
              simp only [failP, Prod.mk.injEq] at H
              obtain ⟨rfl, rfl, rfl, rfl, rfl, rfl⟩ := H
              go_wp2_with (first | (go_at_call 13; with_reducible refine (lex_blank.calls _ _ _ (blank_f _)).mono ?_; rintro e w1 ⟨rfl, hd⟩; obtain ⟨⟨nd, rfl⟩⟩ := hd; have L1 := Aside0.mk (LX.drewN L0.out nd); have q3 := L1.out.c0; have q4 := L1.out.f0; clear q0 q1) | (go_at_call 15; with_reducible refine (lex_signs.calls _).mono ?_; rintro e w2 ⟨b2, rfl, ho2, hb2⟩; have L2 := Aside0.mk (L1.out.step hb2); have l2 := sign_look ho2 hbt.1 hbt.2; rw [hsg] at l2; simp only [Option.getD_none, Option.isSome_none] at l2; clear hb2 ho2; have q6 := L2.out.c0; have q7 := L2.out.f0; have z0 := LX.z0 L2.out; have y0 := LX.y0 L2.out; have z1 := LX.z1 L2.out; have y1 := LX.y1 L2.out; have z2 := LX.z2 L2.out; have y2 := LX.y2 L2.out; have z3 := LX.z3 L2.out; have y3 := LX.y3 L2.out; have z4 := LX.z4 L2.out; have y4 := LX.y4 L2.out; clear q3 q4) | (go_at_call 16; with_reducible refine (lex_names.calls _).mono ?_; rintro e w3 ⟨b3, rfl, ho3, hb3⟩; have L3 := Aside0.mk (L2.out.step hb3); have l3 := name_look ho3 hbt.1 hbt.2; rw [hnm] at l3; simp only [Option.getD_none, Option.isSome_none, tkV_zero] at l3; clear hb3 ho3 z0 z1 z2 z3 z4 y0 y1 y2 y3 y4; have q9 := LX.c0 (LX.alloc L3.out (.cells (tkC 0 0 0 0 ⟨#[]⟩) 24)); have z0 := LX.z0 L3.out; have y0 := LX.y0 L3.out; have z1 := LX.z1 L3.out; have y1 := LX.y1 L3.out; have z2 := LX.z2 L3.out; have y2 := LX.y2 L3.out; have z3 := LX.z3 L3.out; have y3 := LX.y3 L3.out; have z4 := LX.z4 L3.out; have y4 := LX.y4 L3.out; clear q6 q7) | (go_at_call 19; with_reducible refine (num_Scan.calls a0 a x1 x2 _ _ (by unfold num_Scan.f; rw [if_pos hs2, HUN.out])).mono ?_; rintro e w6 ⟨rfl, hb6⟩; have L6 := Aside0.mk ((LX.alloc L3.out _).step hb6); clear hb6 q9 z0 z1 z2 z3 z4 y0 y1 y2 y3 y4; have q11 := L6.out.c0; have q12 := L6.out.f0; have z0 := LX.z0 L6.out; have y0 := LX.y0 L6.out; have z1 := LX.z1 L6.out; have y1 := LX.y1 L6.out; have z2 := LX.z2 L6.out; have y2 := LX.y2 L6.out; have z3 := LX.z3 L6.out; have y3 := LX.y3 L6.out; have z4 := LX.z4 L6.out; have y4 := LX.y4 L6.out) | (go_at_call 14; with_reducible refine (lex_fails x3 a _ _ q11).mono ?_; rintro e w5 ⟨rfl, hb5⟩; clear z0 z1 z2 z3 z4 y0 y1 y2 y3 y4; have L5 := Aside0.mk (L6.out.step hb5); have z0 := LX.z0 L5.out; have y0 := LX.y0 L5.out; have z1 := LX.z1 L5.out; have y1 := LX.y1 L5.out; have z2 := LX.z2 L5.out; have y2 := LX.y2 L5.out; have z3 := LX.z3 L5.out; have y3 := LX.y3 L5.out; have z4 := LX.z4 L5.out; have y4 := LX.y4 L5.out; clear hb5 q11 q12))
              refine bodyPost_ret (results_ct rfl _ _ (w.heap.size + 1) 24 (tkC 0 a 0 0 ⟨#[]⟩) (0, 0) _ rfl (put5 L5.out.z _ _ _ _ _) hu rfl (by kernel_rfl)) rfl ?_
              exact ⟨by simp [tkC], set5_below L5.out.B (by omega) _ _ _ _ _⟩
            have c6b : (bt a0 a == 45) = false := by simp [c6]
            have c7 : 48 ≤ bt a0 a := by omega
            have c8 : bt a0 a ≤ 57 := by omega
            clear c6 c5
            cases hun : numScan a0 a with | mk x1 x2 =>
            obtain ⟨x2, x3⟩ := x2
            rw [hun] at H
            simp only at H
            have HUN := Aside0.mk hun
            clear hun
            by_cases c8 : x3 = 0
            case pos =>
              rw [if_pos c8] at H
              subst c8
              simp only [Prod.mk.injEq] at H
              obtain ⟨rfl, rfl, rfl, rfl, rfl, rfl⟩ := H
              go_wp2_with (first | (go_at_call 13; with_reducible refine (lex_blank.calls _ _ _ (blank_f _)).mono ?_; rintro e w1 ⟨rfl, hd⟩; obtain ⟨⟨nd, rfl⟩⟩ := hd; have L1 := Aside0.mk (LX.drewN L0.out nd); have q3 := L1.out.c0; have q4 := L1.out.f0; clear q0 q1) | (go_at_call 15; with_reducible refine (lex_signs.calls _).mono ?_; rintro e w2 ⟨b2, rfl, ho2, hb2⟩; have L2 := Aside0.mk (L1.out.step hb2); have l2 := sign_look ho2 hbt.1 hbt.2; rw [hsg] at l2; simp only [Option.getD_none, Option.isSome_none] at l2; clear hb2 ho2; have q6 := L2.out.c0; have q7 := L2.out.f0; have z0 := LX.z0 L2.out; have y0 := LX.y0 L2.out; have z1 := LX.z1 L2.out; have y1 := LX.y1 L2.out; have z2 := LX.z2 L2.out; have y2 := LX.y2 L2.out; have z3 := LX.z3 L2.out; have y3 := LX.y3 L2.out; have z4 := LX.z4 L2.out; have y4 := LX.y4 L2.out; clear q3 q4) | (go_at_call 16; with_reducible refine (lex_names.calls _).mono ?_; rintro e w3 ⟨b3, rfl, ho3, hb3⟩; have L3 := Aside0.mk (L2.out.step hb3); have l3 := name_look ho3 hbt.1 hbt.2; rw [hnm] at l3; simp only [Option.getD_none, Option.isSome_none, tkV_zero] at l3; clear hb3 ho3 z0 z1 z2 z3 z4 y0 y1 y2 y3 y4; have q9 := LX.c0 (LX.alloc L3.out (.cells (tkC 0 0 0 0 ⟨#[]⟩) 24)); have z0 := LX.z0 L3.out; have y0 := LX.y0 L3.out; have z1 := LX.z1 L3.out; have y1 := LX.y1 L3.out; have z2 := LX.z2 L3.out; have y2 := LX.y2 L3.out; have z3 := LX.z3 L3.out; have y3 := LX.y3 L3.out; have z4 := LX.z4 L3.out; have y4 := LX.y4 L3.out; clear q6 q7) | (go_at_call 19; with_reducible refine (num_Scan.calls a0 a x1 x2 _ _ (by unfold num_Scan.f; rw [if_pos hs2, HUN.out])).mono ?_; rintro e w6 ⟨rfl, hb6⟩; have L6 := Aside0.mk ((LX.alloc L3.out _).step hb6); clear hb6 q9 z0 z1 z2 z3 z4 y0 y1 y2 y3 y4; have q11 := L6.out.c0; have q12 := L6.out.f0; have z0 := LX.z0 L6.out; have y0 := LX.y0 L6.out; have z1 := LX.z1 L6.out; have y1 := LX.y1 L6.out; have z2 := LX.z2 L6.out; have y2 := LX.y2 L6.out; have z3 := LX.z3 L6.out; have y3 := LX.y3 L6.out; have z4 := LX.z4 L6.out; have y4 := LX.y4 L6.out))
              refine bodyPost_ret (results_ct rfl _ _ (w.heap.size + 1) 24 (tkC 11 a x2 x1 ⟨#[]⟩) (0, 0) _ rfl (put5 L6.out.z _ _ _ _ _) hu rfl (by kernel_rfl)) rfl ?_
              exact ⟨by simp [tkC], set5_below L6.out.B (by omega) _ _ _ _ _⟩
            rw [if_neg c8] at H
            have c8b : (x3 == 0) = false := by simp [c8]
            have c8c : (x3 != 0) = true := by simp [c8]
            clear c8
            simp only [failP, Prod.mk.injEq] at H
            obtain ⟨rfl, rfl, rfl, rfl, rfl, rfl⟩ := H
            go_wp2_with (first | (go_at_call 13; with_reducible refine (lex_blank.calls _ _ _ (blank_f _)).mono ?_; rintro e w1 ⟨rfl, hd⟩; obtain ⟨⟨nd, rfl⟩⟩ := hd; have L1 := Aside0.mk (LX.drewN L0.out nd); have q3 := L1.out.c0; have q4 := L1.out.f0; clear q0 q1) | (go_at_call 15; with_reducible refine (lex_signs.calls _).mono ?_; rintro e w2 ⟨b2, rfl, ho2, hb2⟩; have L2 := Aside0.mk (L1.out.step hb2); have l2 := sign_look ho2 hbt.1 hbt.2; rw [hsg] at l2; simp only [Option.getD_none, Option.isSome_none] at l2; clear hb2 ho2; have q6 := L2.out.c0; have q7 := L2.out.f0; have z0 := LX.z0 L2.out; have y0 := LX.y0 L2.out; have z1 := LX.z1 L2.out; have y1 := LX.y1 L2.out; have z2 := LX.z2 L2.out; have y2 := LX.y2 L2.out; have z3 := LX.z3 L2.out; have y3 := LX.y3 L2.out; have z4 := LX.z4 L2.out; have y4 := LX.y4 L2.out; clear q3 q4) | (go_at_call 16; with_reducible refine (lex_names.calls _).mono ?_; rintro e w3 ⟨b3, rfl, ho3, hb3⟩; have L3 := Aside0.mk (L2.out.step hb3); have l3 := name_look ho3 hbt.1 hbt.2; rw [hnm] at l3; simp only [Option.getD_none, Option.isSome_none, tkV_zero] at l3; clear hb3 ho3 z0 z1 z2 z3 z4 y0 y1 y2 y3 y4; have q9 := LX.c0 (LX.alloc L3.out (.cells (tkC 0 0 0 0 ⟨#[]⟩) 24)); have z0 := LX.z0 L3.out; have y0 := LX.y0 L3.out; have z1 := LX.z1 L3.out; have y1 := LX.y1 L3.out; have z2 := LX.z2 L3.out; have y2 := LX.y2 L3.out; have z3 := LX.z3 L3.out; have y3 := LX.y3 L3.out; have z4 := LX.z4 L3.out; have y4 := LX.y4 L3.out; clear q6 q7) | (go_at_call 19; with_reducible refine (num_Scan.calls a0 a x1 x2 _ _ (by unfold num_Scan.f; rw [if_pos hs2, HUN.out])).mono ?_; rintro e w6 ⟨rfl, hb6⟩; have L6 := Aside0.mk ((LX.alloc L3.out _).step hb6); clear hb6 q9 z0 z1 z2 z3 z4 y0 y1 y2 y3 y4; have q11 := L6.out.c0; have q12 := L6.out.f0; have z0 := LX.z0 L6.out; have y0 := LX.y0 L6.out; have z1 := LX.z1 L6.out; have y1 := LX.y1 L6.out; have z2 := LX.z2 L6.out; have y2 := LX.y2 L6.out; have z3 := LX.z3 L6.out; have y3 := LX.y3 L6.out; have z4 := LX.z4 L6.out; have y4 := LX.y4 L6.out) | (go_at_call 14; with_reducible refine (lex_fails x3 a _ _ q11).mono ?_; rintro e w5 ⟨rfl, hb5⟩; clear z0 z1 z2 z3 z4 y0 y1 y2 y3 y4; have L5 := Aside0.mk (L6.out.step hb5); have z0 := LX.z0 L5.out; have y0 := LX.y0 L5.out; have z1 := LX.z1 L5.out; have y1 := LX.y1 L5.out; have z2 := LX.z2 L5.out; have y2 := LX.y2 L5.out; have z3 := LX.z3 L5.out; have y3 := LX.y3 L5.out; have z4 := LX.z4 L5.out; have y4 := LX.y4 L5.out; clear hb5 q11 q12))
            refine bodyPost_ret (results_ct rfl _ _ (w.heap.size + 1) 24 (tkC 0 a 0 0 ⟨#[]⟩) (0, 0) _ rfl (put5 L5.out.z _ _ _ _ _) hu rfl (by kernel_rfl)) rfl ?_
            exact ⟨by simp [tkC], set5_below L5.out.B (by omega) _ _ _ _ _⟩
          rw [if_neg c5] at H
          simp only [failP, Prod.mk.injEq] at H
          obtain ⟨rfl, rfl, rfl, rfl, rfl, rfl⟩ := H
          have c5a : (bt a0 a == 45) = false := by simp; omega
          by_cases c6 : 48 ≤ bt a0 a
          case pos =>
            have c7 : ¬ bt a0 a ≤ 57 := by omega
            clear c5
            go_wp2_with (first | (go_at_call 13; with_reducible refine (lex_blank.calls _ _ _ (blank_f _)).mono ?_; rintro e w1 ⟨rfl, hd⟩; obtain ⟨⟨nd, rfl⟩⟩ := hd; have L1 := Aside0.mk (LX.drewN L0.out nd); have q3 := L1.out.c0; have q4 := L1.out.f0; clear q0 q1) | (go_at_call 15; with_reducible refine (lex_signs.calls _).mono ?_; rintro e w2 ⟨b2, rfl, ho2, hb2⟩; have L2 := Aside0.mk (L1.out.step hb2); have l2 := sign_look ho2 hbt.1 hbt.2; rw [hsg] at l2; simp only [Option.getD_none, Option.isSome_none] at l2; clear hb2 ho2; have q6 := L2.out.c0; have q7 := L2.out.f0; have z0 := LX.z0 L2.out; have y0 := LX.y0 L2.out; have z1 := LX.z1 L2.out; have y1 := LX.y1 L2.out; have z2 := LX.z2 L2.out; have y2 := LX.y2 L2.out; have z3 := LX.z3 L2.out; have y3 := LX.y3 L2.out; have z4 := LX.z4 L2.out; have y4 := LX.y4 L2.out; clear q3 q4) | (go_at_call 16; with_reducible refine (lex_names.calls _).mono ?_; rintro e w3 ⟨b3, rfl, ho3, hb3⟩; have L3 := Aside0.mk (L2.out.step hb3); have l3 := name_look ho3 hbt.1 hbt.2; rw [hnm] at l3; simp only [Option.getD_none, Option.isSome_none, tkV_zero] at l3; clear hb3 ho3 z0 z1 z2 z3 z4 y0 y1 y2 y3 y4; have q9 := LX.c0 (LX.alloc L3.out (.cells (tkC 0 0 0 0 ⟨#[]⟩) 24)); have z0 := LX.z0 L3.out; have y0 := LX.y0 L3.out; have z1 := LX.z1 L3.out; have y1 := LX.y1 L3.out; have z2 := LX.z2 L3.out; have y2 := LX.y2 L3.out; have z3 := LX.z3 L3.out; have y3 := LX.y3 L3.out; have z4 := LX.z4 L3.out; have y4 := LX.y4 L3.out; clear q6 q7) | (go_at_call 14; with_reducible refine (lex_fails 6 a _ _ (LX.c0 (LX.alloc L3.out _))).mono ?_; rintro e w5 ⟨rfl, hb5⟩; clear z0 z1 z2 z3 z4 y0 y1 y2 y3 y4; have L5 := Aside0.mk ((LX.alloc L3.out _).step hb5); have z0 := LX.z0 L5.out; have y0 := LX.y0 L5.out; have z1 := LX.z1 L5.out; have y1 := LX.y1 L5.out; have z2 := LX.z2 L5.out; have y2 := LX.y2 L5.out; have z3 := LX.z3 L5.out; have y3 := LX.y3 L5.out; have z4 := LX.z4 L5.out; have y4 := LX.y4 L5.out; clear hb5 q9))
            refine bodyPost_ret (results_ct rfl _ _ (w.heap.size + 1) 24 (tkC 0 a 0 0 ⟨#[]⟩) (0, 0) _ rfl (put5 L5.out.z _ _ _ _ _) hu rfl (by kernel_rfl)) rfl ?_
            exact ⟨by simp [tkC], set5_below L5.out.B (by omega) _ _ _ _ _⟩
          case neg =>
            skip
            clear c5
            go_wp2_with (first | (go_at_call 13; with_reducible refine (lex_blank.calls _ _ _ (blank_f _)).mono ?_; rintro e w1 ⟨rfl, hd⟩; obtain ⟨⟨nd, rfl⟩⟩ := hd; have L1 := Aside0.mk (LX.drewN L0.out nd); have q3 := L1.out.c0; have q4 := L1.out.f0; clear q0 q1) | (go_at_call 15; with_reducible refine (lex_signs.calls _).mono ?_; rintro e w2 ⟨b2, rfl, ho2, hb2⟩; have L2 := Aside0.mk (L1.out.step hb2); have l2 := sign_look ho2 hbt.1 hbt.2; rw [hsg] at l2; simp only [Option.getD_none, Option.isSome_none] at l2; clear hb2 ho2; have q6 := L2.out.c0; have q7 := L2.out.f0; have z0 := LX.z0 L2.out; have y0 := LX.y0 L2.out; have z1 := LX.z1 L2.out; have y1 := LX.y1 L2.out; have z2 := LX.z2 L2.out; have y2 := LX.y2 L2.out; have z3 := LX.z3 L2.out; have y3 := LX.y3 L2.out; have z4 := LX.z4 L2.out; have y4 := LX.y4 L2.out; clear q3 q4) | (go_at_call 16; with_reducible refine (lex_names.calls _).mono ?_; rintro e w3 ⟨b3, rfl, ho3, hb3⟩; have L3 := Aside0.mk (L2.out.step hb3); have l3 := name_look ho3 hbt.1 hbt.2; rw [hnm] at l3; simp only [Option.getD_none, Option.isSome_none, tkV_zero] at l3; clear hb3 ho3 z0 z1 z2 z3 z4 y0 y1 y2 y3 y4; have q9 := LX.c0 (LX.alloc L3.out (.cells (tkC 0 0 0 0 ⟨#[]⟩) 24)); have z0 := LX.z0 L3.out; have y0 := LX.y0 L3.out; have z1 := LX.z1 L3.out; have y1 := LX.y1 L3.out; have z2 := LX.z2 L3.out; have y2 := LX.y2 L3.out; have z3 := LX.z3 L3.out; have y3 := LX.y3 L3.out; have z4 := LX.z4 L3.out; have y4 := LX.y4 L3.out; clear q6 q7) | (go_at_call 14; with_reducible refine (lex_fails 6 a _ _ (LX.c0 (LX.alloc L3.out _))).mono ?_; rintro e w5 ⟨rfl, hb5⟩; clear z0 z1 z2 z3 z4 y0 y1 y2 y3 y4; have L5 := Aside0.mk ((LX.alloc L3.out _).step hb5); have z0 := LX.z0 L5.out; have y0 := LX.y0 L5.out; have z1 := LX.z1 L5.out; have y1 := LX.y1 L5.out; have z2 := LX.z2 L5.out; have y2 := LX.y2 L5.out; have z3 := LX.z3 L5.out; have y3 := LX.y3 L5.out; have z4 := LX.z4 L5.out; have y4 := LX.y4 L5.out; clear hb5 q9))
            refine bodyPost_ret (results_ct rfl _ _ (w.heap.size + 1) 24 (tkC 0 a 0 0 ⟨#[]⟩) (0, 0) _ rfl (put5 L5.out.z _ _ _ _ _) hu rfl (by kernel_rfl)) rfl ?_
            exact ⟨by simp [tkC], set5_below L5.out.B (by omega) _ _ _ _ _⟩
end Go.Proofs.Ytjdgjifacdnkgaa.X
end
section
namespace Go.Proofs.Ytjdgjifacdnkgaa.X
open Go.RowKit Go.Proofs.YtjdgjifacdnkgaaW.PrintWords Go.Proofs.YtjdgjifacdnkgaaW.PrintLast Go.Proofs.YtjdgjifacdnkgaaW.PrintMore
set_option linter.unusedVariables false
set_option linter.unusedSimpArgs false
theorem skip_range (t : ByteArray) : ∀ (k : Nat) (a : Int), a ≤ (t.size : Int) → a ≤ skipP t k a ∧ skipP t k a ≤ (t.size : Int)
  | 0, a, h => ⟨by simp [skipP], by simpa [skipP] using h⟩
  | k + 1, a, h => by
    unfold skipP
    split
    · split
      · have := skip_range t k (a + 1) (by omega)
        omega
      · omega
    · omega
theorem text_place (t : ByteArray) : ∀ (f : Nat) (a : Int) (l l' : List Int) (b : Int), 0 ≤ a → textP t f a l = .ok (l', b) → a < b ∧ b ≤ (t.size : Int)
  | 0, a, l, l', b, h0, h => by simp [textP] at h
  | f + 1, a, l, l', b, h0, h => by
    unfold textP at h
    by_cases c1 : a < (t.size : Int)
    · rw [if_pos c1] at h
      by_cases c2 : bt t a = 34
      · rw [if_pos c2] at h
        simp only [Except.ok.injEq, Prod.mk.injEq] at h
        omega
      · rw [if_neg c2] at h
        by_cases c3 : bt t a = 92
        · rw [if_pos c3] at h
          cases he : escP t (a + 1) with
          | error e => rw [he] at h; cases h
          | ok x =>
            obtain ⟨v, b1⟩ := x
            rw [he] at h
            simp only at h
            have p := esc_place (by omega) he
            have := text_place t f b1 _ l' b (by omega) h
            omega
        · rw [if_neg c3] at h
          by_cases c4 : bt t a < 32
          · rw [if_pos c4] at h; cases h
          · rw [if_neg c4] at h
            cases hd : dec t a.toNat with
            | none => rw [hd] at h; cases h
            | some x =>
              obtain ⟨v, n⟩ := x
              rw [hd] at h
              simp only at h
              have := text_place t f (a + n) _ l' b (by omega) h
              omega
    · rw [if_neg c1] at h; cases h
theorem must_ne {t : ByteArray} {c a : Int} : mustP t c a ≠ .error 0 := by
  unfold mustP; split
  · split <;> simp
  · simp
theorem four_ne (t : ByteArray) : ∀ (k : Nat) (n a : Int), fourP t k n a ≠ .error 0
  | 0, n, a => by simp [fourP]
  | k + 1, n, a => by
    unfold fourP; split
    · split
      · simp
      · exact four_ne t k _ _
    · simp
theorem pair_ne (t : ByteArray) (n a : Int) : pairP t n a ≠ .error 0 := by
  unfold pairP
  cases h1 : mustP t 92 a with
  | error e => simp only; intro h; injection h with h; subst h; exact must_ne h1
  | ok x =>
    simp only
    cases h2 : mustP t 117 x.2 with
    | error e => simp only; intro h; injection h with h; subst h; exact must_ne h2
    | ok y =>
      simp only
      cases h3 : fourP t 4 0 y.2 with
      | error e => simp only; intro h; injection h with h; subst h; exact four_ne _ _ _ _ h3
      | ok z =>
        simp only
        split
        · simp
        · split <;> simp
theorem esc_ne (t : ByteArray) (a : Int) : escP t a ≠ .error 0 := by
  unfold escP
  split
  · split
    · simp
    · split
      · cases h3 : fourP t 4 0 (a + 1) with
        | error e => simp only; intro h; injection h with h; subst h; exact four_ne _ _ _ _ h3
        | ok z =>
          simp only
          split
          · simp
          · split
            · simp
            · split
              · simp
              · exact pair_ne _ _ _
      · simp
  · simp
theorem text_ne (t : ByteArray) : ∀ (f : Nat) (a : Int) (l : List Int), 0 ≤ a → a ≤ (t.size : Int) → (t.size : Int) < f + a → textP t f a l ≠ .error 0
  | 0, a, l, h0, ha, hf => by omega
  | f + 1, a, l, h0, ha, hf => by
    unfold textP
    by_cases c1 : a < (t.size : Int)
    · rw [if_pos c1]
      by_cases c2 : bt t a = 34
      · rw [if_pos c2]; simp
      · rw [if_neg c2]
        by_cases c3 : bt t a = 92
        · rw [if_pos c3]
          cases he : escP t (a + 1) with
          | error e => simp only; intro h; injection h with h; subst h; exact esc_ne _ _ he
          | ok x =>
            obtain ⟨v, b1⟩ := x
            have p := esc_place (by omega) he
            exact text_ne t f b1 _ (by omega) (by omega) (by omega)
        · rw [if_neg c3]
          by_cases c4 : bt t a < 32
          · rw [if_pos c4]; simp
          · rw [if_neg c4]
            cases hd : dec t a.toNat with
            | none => simp
            | some x =>
              obtain ⟨v, n⟩ := x
              have q1 := (dec_form hd).2.1
              have q2 := (dec_range hd).1
              exact text_ne t f (a + n) _ (by omega) (by omega) (by omega)
    · rw [if_neg c1]; simp
theorem unq_place {t : ByteArray} {a b : Int} {s : ByteArray} (h0 : 0 ≤ a) (h : unqP t a = (s, b, 0)) : a < b ∧ b ≤ (t.size : Int) := by
  unfold unqP at h
  split at h
  · simp at h
  · split at h
    · simp at h
    · split at h
      · simp at h
      · split at h
        · cases hx : textP t (t.size + 1) (a + 1) [] with
          | error e => rw [hx] at h; simp only [Prod.mk.injEq] at h; obtain ⟨_, _, rfl⟩ := h; exact absurd hx (text_ne t _ _ _ (by omega) (by omega) (by omega))
          | ok x =>
            obtain ⟨l, b1⟩ := x
            rw [hx] at h
            simp only [Prod.mk.injEq] at h
            have := text_place t _ _ _ _ _ (by omega) hx
            omega
        · simp at h
theorem scanL_ge (s : ByteArray) : ∀ (k : Nat) (n i : Int) (o : Bool), i ≤ (s.size : Int) → i ≤ (scanL s k n i o).2.1 ∧ (scanL s k n i o).2.1 ≤ (s.size : Int)
  | 0, n, i, o, h => by simp [scanL, h]
  | k + 1, n, i, o, h => by
    unfold scanL
    by_cases hd : isDig s i = true
    · have hi : i < (s.size : Int) := by simp [isDig] at hd; exact hd.1
      rw [if_pos hd]
      split
      · have := scanL_ge s k 9007199254740991 (i + 1) true (by omega); omega
      · have := scanL_ge s k (10 * n + (bt s i - 48)) (i + 1) o (by omega); omega
    · rw [if_neg hd]; exact ⟨Int.le_refl _, h⟩
theorem scanEnd_place {s : ByteArray} {a b n i : Int} {o : Bool} {x y : Int} (h : scanEnd s a b n i o = (x, y, 0)) : y = i := by
  unfold scanEnd at h
  repeat' split at h
  all_goals (simp only [Prod.mk.injEq] at h; omega)
theorem scanFrom_place {s : ByteArray} {a b x y : Int} (hb : b ≤ (s.size : Int)) (h : scanFrom s a b = (x, y, 0)) : b < y ∧ y ≤ (s.size : Int) := by
  unfold scanFrom at h
  split at h
  · simp at h
  · split at h
    · rename_i hd
      have := scanEnd_place h
      have hi : b < (s.size : Int) := by simp [isDig] at hd; exact hd.1
      have hg := scanL_ge s (((s.size : Int) - b).toNat + 1) 0 b false hb
      have hstep : b + 1 ≤ (scanL s (((s.size : Int) - b).toNat + 1) 0 b false).2.1 := by
        unfold scanL
        rw [if_pos hd]
        split
        · exact (scanL_ge s _ _ (b + 1) true (by omega)).1
        · exact (scanL_ge s _ _ (b + 1) false (by omega)).1
      omega
    · simp at h
theorem num_place {s : ByteArray} {a x y : Int} (h0 : 0 ≤ a) (ha : a < (s.size : Int)) (h : numScan s a = (x, y, 0)) : a < y ∧ y ≤ (s.size : Int) := by
  unfold numScan at h
  rw [if_neg (by omega), if_neg (by omega)] at h
  split at h
  · have := scanFrom_place (by omega) h; omega
  · exact scanFrom_place (by omega) h
theorem pre_size : ∀ (a b : List UInt8), Lib.hasPrefix a b = true → b.length ≤ a.length := by
  intro a b h
  unfold Lib.hasPrefix at h
  exact (List.isPrefixOf_iff_prefix.1 h).length_le
theorem sign_ne {c k : Int} (h : signP c = some k) : k ≠ 12 := by
  unfold signP at h
  repeat' split at h
  all_goals first | (cases h; done) | (simp only [Option.some.injEq] at h; omega)
theorem name_in {c k : Int} (h : nameP c = some k) : k = 7 ∨ k = 8 ∨ k = 9 := by
  unfold nameP at h
  repeat' split at h
  all_goals first | (cases h; done) | (simp only [Option.some.injEq] at h; omega)
theorem name_size {k : Int} (h : k = 7 ∨ k = 8 ∨ k = 9) : 4 ≤ (nameS k).size := by
  rcases h with rfl | rfl | rfl <;> decide
theorem tok_place {t : ByteArray} {a kd f b n : Int} {s : ByteArray} (h0 : 0 ≤ a) (ha : a ≤ (t.size : Int)) (h : tokP t a = (kd, f, b, n, s, 0)) : f = a ∧ ((kd = 12 ∧ a = (t.size : Int)) ∨ (kd ≠ 12 ∧ a < b ∧ b ≤ (t.size : Int))) := by
  unfold tokP failP at h
  by_cases c1 : a = (t.size : Int)
  · rw [if_pos c1] at h
    simp only [Prod.mk.injEq] at h
    omega
  rw [if_neg c1] at h
  cases hs : signP (bt t a) with
  | some k =>
    rw [hs] at h
    simp only [Prod.mk.injEq] at h
    have := sign_ne hs
    omega
  | none =>
    rw [hs] at h
    simp only at h
    cases hn : nameP (bt t a) with
    | some k =>
      rw [hn] at h
      simp only at h
      have hk := name_in hn
      have hz := name_size hk
      by_cases c2 : preP t a (nameS k) = true
      · rw [if_pos c2] at h
        simp only [Prod.mk.injEq] at h
        have hp := pre_size _ _ c2
        simp only [ByteArray.data_extract, Array.toList_extract, List.extract_eq_take_drop, List.length_take, List.length_drop, Array.length_toList] at hp
        have e1 : (nameS k).data.size = (nameS k).size := rfl
        have e2 : t.data.size = t.size := rfl
        omega
      · rw [if_neg c2] at h
        simp at h
    | none =>
      rw [hn] at h
      simp only at h
      by_cases c3 : bt t a = 34
      · rw [if_pos c3] at h
        cases hu : unqP t a with
        | mk x y =>
          obtain ⟨y, e⟩ := y
          rw [hu] at h
          simp only at h
          by_cases c4 : e = 0
          · rw [if_pos c4] at h
            subst c4
            have := unq_place h0 hu
            simp only [Prod.mk.injEq] at h
            omega
          · rw [if_neg c4] at h
            simp only [Prod.mk.injEq] at h
            omega
      · rw [if_neg c3] at h
        by_cases c5 : bt t a = 45 ∨ (48 ≤ bt t a ∧ bt t a ≤ 57)
        · rw [if_pos c5] at h
          cases hu : numScan t a with
          | mk x y =>
            obtain ⟨y, e⟩ := y
            rw [hu] at h
            simp only at h
            by_cases c4 : e = 0
            · rw [if_pos c4] at h
              subst c4
              have := num_place h0 (by omega) hu
              simp only [Prod.mk.injEq] at h
              omega
            · rw [if_neg c4] at h
              simp only [Prod.mk.injEq] at h
              omega
        · rw [if_neg c5] at h
          simp at h
theorem next_place {t : ByteArray} {a kd f b n : Int} {s : ByteArray} (h : nextP t a = (kd, f, b, n, s, 0)) : 0 ≤ a ∧ a ≤ f ∧ f = skipP t (t.size + 1) a ∧ f ≤ (t.size : Int) ∧ ((kd = 12 ∧ f = (t.size : Int)) ∨ (kd ≠ 12 ∧ f < b ∧ b ≤ (t.size : Int))) := by
  unfold nextP failP at h
  split at h
  · simp at h
  · split at h
    · simp at h
    · have hr := skip_range t (t.size + 1) a (by omega)
      have := tok_place (by omega) hr.2 h
      omega
end Go.Proofs.Ytjdgjifacdnkgaa.X
end
section
namespace Go.Proofs.Ytjdgjifacdnkgaa.X
open Go.RowKit Go.Proofs.YtjdgjifacdnkgaaW.PrintWords Go.Proofs.YtjdgjifacdnkgaaW.PrintLast Go.Proofs.YtjdgjifacdnkgaaW.PrintMore
attribute [local go_sem] max2_int min2_int max_two min_two max_three min_three max_four min_four
set_option linter.unusedVariables false
set_option linter.unusedSimpArgs false
def sealringref04_small.j0 : Nat → Int → Bool → Option (Int)
  | 0, _, _ => none
  | k + 1, x0, x8 => if x8 = true then (some ((x0) % 256)) else (if x0 = 8 then (some 98) else (if x0 = 9 then (some 116) else (if x0 = 10 then (some 110) else (if x0 = 12 then (some 102) else (if x0 = 13 then (some 114) else (some 0))))))
def sealringref04_small.f (k : Nat) (a0 : Int) : Option (Int) := if a0 = 34 then (sealringref04_small.j0 k a0 true) else (sealringref04_small.j0 k a0 (a0 == 92))
theorem sealringref04_small.mono_l : ∀ k, (∀ y0 y1, LeO (sealringref04_small.j0 k y0 y1) (sealringref04_small.j0 (k + 1) y0 y1))
  | 0 => fun _ _ r h => by simp [sealringref04_small.j0] at h
  | k + 1 => by
    have ih0 := sealringref04_small.mono_l k
    · intro y0 y1
      unfold sealringref04_small.j0
      repeat' first
      | (with_reducible exact ih0 _ _)
      | (with_reducible exact LeO.refl _)
      | (with_reducible exact LeO.none _)
      | (with_reducible refine LeO.ite ?_ ?_)
      | (with_reducible refine LeO.bind ?_ (fun _ => ?_))
      | exact ih0 _ _
      | exact LeO.none _
      | refine LeO.ite ?_ ?_
      | refine LeO.bind ?_ (fun _ => ?_)
theorem sealringref04_small.mono : ∀ a0 k, LeO (sealringref04_small.f k a0) (sealringref04_small.f (k + 1) a0) := by
  intro a0 k
  have ih0 := sealringref04_small.mono_l k
  unfold sealringref04_small.f
  repeat' first
      | (with_reducible exact ih0 _ _)
      | (with_reducible exact LeO.refl _)
      | (with_reducible exact LeO.none _)
      | (with_reducible refine LeO.ite ?_ ?_)
      | (with_reducible refine LeO.bind ?_ (fun _ => ?_))
      | exact ih0 _ _
      | exact LeO.none _
      | refine LeO.ite ?_ ?_
      | refine LeO.bind ?_ (fun _ => ?_)
set_option maxHeartbeats 8000000 in
set_option maxRecDepth 100000 in
theorem sealringref04_small.calls (k : Nat) (a0 : Int) (r : Int) (w : World) (h : sealringref04_small.f k a0 = some r) :
    Calls Try.prog 41 #[.int .i64 a0] w fun e w' => e = .returned (.int .u8 r) ∧ Drawn0 w w' := by
  have H : (if a0 = 34 then (sealringref04_small.j0 k a0 true) else (sealringref04_small.j0 k a0 (a0 == 92))) = some r := h
  clear h
  have HC2 := Aside0.mk H
  clear H
  go_enter Try.func41, Try.ntmps41
  go_upto_region 1 with (fail)
  go_cut [8] (fun v8 wc => ∃ (kq : Nat) (x8_1 : Bool), v8 = .bool x8_1 ∧ Aside0 (sealringref04_small.j0 kq a0 x8_1 = some r) ∧ Aside0 (kq ≤ k) ∧ Drawn0 w wc)
  case first =>
    have H := HC2.out
    clear HC2
    by_cases c3 : a0 = 34
    · rw [if_pos c3] at H
      have c3b0 : (a0 == 34) = true := beq_iff_eq.mpr c3
      have c3b1 : (a0 != 34) = false := bne_eq_false_iff_eq.mpr c3
      clear c3
      (first | rw [c3b0] | (simp only [i64_w, i32_w]; rw [c3b0]) | skip)
      have H' := Aside0.mk H
      clear H
      go_wp2
      go_meet
      case rel => exact ⟨_, (true), (by first | rfl | (simp; done) | (simp [*]; done) | (simp [wrap64]; done)), (by first | with_reducible exact H' | exact H' | (subst_vars; exact H')), ⟨by first | omega | exact Nat.le_refl _⟩, by repeat (first | exact Drawn0.refl _ | apply Drawn0.step)⟩
    · rw [if_neg c3] at H
      have c3b0 : (a0 == 34) = false := beq_eq_false_iff_ne.mpr c3
      have c3b1 : (a0 != 34) = true := bne_iff_ne.mpr c3
      (first | rw [c3b0] | (simp only [i64_w, i32_w]; rw [c3b0]) | skip)
      have H' := Aside0.mk H
      clear H
      go_wp2
      go_meet
      case rel => exact ⟨_, ((a0 == 92)), (by first | rfl | (simp; done) | (simp [*]; done) | (simp [wrap64]; done)), (by first | with_reducible exact H' | exact H' | (subst_vars; exact H')), ⟨by first | omega | exact Nat.le_refl _⟩, by repeat (first | exact Drawn0.refl _ | apply Drawn0.step)⟩
  case rest =>
    clear HC2
    try clear p2
    try clear c3
    try clear c3b0
    try clear c3b1
    obtain ⟨kq, x8_1, rfl, HA, HJ1, ⟨mc1, rfl⟩⟩ := hcut
    cases kq with
    | zero => exact absurd HA.out (by simp [sealringref04_small.j0])
    | succ kj1 =>
      have H := HA.out
      clear HA
      simp only [sealringref04_small.j0] at H
      by_cases c4 : x8_1 = true
      · subst c4
        have H1 : (some ((a0) % 256)) = some r := by rw [if_pos rfl] at H; exact H
        clear H
        have H := H1
        clear H1
        obtain rfl := Option.some.inj H
        go_wp2
        go_ret
        exact ⟨by first | rfl | (simp; done) | (simp [*]; done), by repeat (first | exact Drawn0.refl _ | apply Drawn0.step)⟩
      · replace c4 := Bool.eq_false_iff.mpr c4
        subst c4
        have H1 : (if a0 = 8 then (some 98) else (if a0 = 9 then (some 116) else (if a0 = 10 then (some 110) else (if a0 = 12 then (some 102) else (if a0 = 13 then (some 114) else (some 0)))))) = some r := by rw [if_neg (show ¬ (false = true) by decide)] at H; exact H
        clear H
        have H := H1
        clear H1
        by_cases c5 : a0 = 8
        · rw [if_pos c5] at H
          have c5b0 : (a0 == 8) = true := beq_iff_eq.mpr c5
          have c5b1 : (a0 != 8) = false := bne_eq_false_iff_eq.mpr c5
          clear c5
          obtain rfl := Option.some.inj H
          go_wp2
          go_ret
          exact ⟨by first | rfl | (simp; done) | (simp [*]; done), by repeat (first | exact Drawn0.refl _ | apply Drawn0.step)⟩
        · rw [if_neg c5] at H
          have c5b0 : (a0 == 8) = false := beq_eq_false_iff_ne.mpr c5
          have c5b1 : (a0 != 8) = true := bne_iff_ne.mpr c5
          by_cases c6 : a0 = 9
          · rw [if_pos c6] at H
            have c6b0 : (a0 == 9) = true := beq_iff_eq.mpr c6
            have c6b1 : (a0 != 9) = false := bne_eq_false_iff_eq.mpr c6
            clear c6
            obtain rfl := Option.some.inj H
            go_wp2
            go_ret
            exact ⟨by first | rfl | (simp; done) | (simp [*]; done), by repeat (first | exact Drawn0.refl _ | apply Drawn0.step)⟩
          · rw [if_neg c6] at H
            have c6b0 : (a0 == 9) = false := beq_eq_false_iff_ne.mpr c6
            have c6b1 : (a0 != 9) = true := bne_iff_ne.mpr c6
            by_cases c7 : a0 = 10
            · rw [if_pos c7] at H
              have c7b0 : (a0 == 10) = true := beq_iff_eq.mpr c7
              have c7b1 : (a0 != 10) = false := bne_eq_false_iff_eq.mpr c7
              clear c7
              obtain rfl := Option.some.inj H
              go_wp2
              go_ret
              exact ⟨by first | rfl | (simp; done) | (simp [*]; done), by repeat (first | exact Drawn0.refl _ | apply Drawn0.step)⟩
            · rw [if_neg c7] at H
              have c7b0 : (a0 == 10) = false := beq_eq_false_iff_ne.mpr c7
              have c7b1 : (a0 != 10) = true := bne_iff_ne.mpr c7
              by_cases c8 : a0 = 12
              · rw [if_pos c8] at H
                have c8b0 : (a0 == 12) = true := beq_iff_eq.mpr c8
                have c8b1 : (a0 != 12) = false := bne_eq_false_iff_eq.mpr c8
                clear c8
                obtain rfl := Option.some.inj H
                go_wp2
                go_ret
                exact ⟨by first | rfl | (simp; done) | (simp [*]; done), by repeat (first | exact Drawn0.refl _ | apply Drawn0.step)⟩
              · rw [if_neg c8] at H
                have c8b0 : (a0 == 12) = false := beq_eq_false_iff_ne.mpr c8
                have c8b1 : (a0 != 12) = true := bne_iff_ne.mpr c8
                by_cases c9 : a0 = 13
                · rw [if_pos c9] at H
                  have c9b0 : (a0 == 13) = true := beq_iff_eq.mpr c9
                  have c9b1 : (a0 != 13) = false := bne_eq_false_iff_eq.mpr c9
                  clear c9
                  obtain rfl := Option.some.inj H
                  go_wp2
                  go_ret
                  exact ⟨by first | rfl | (simp; done) | (simp [*]; done), by repeat (first | exact Drawn0.refl _ | apply Drawn0.step)⟩
                · rw [if_neg c9] at H
                  have c9b0 : (a0 == 13) = false := beq_eq_false_iff_ne.mpr c9
                  have c9b1 : (a0 != 13) = true := bne_iff_ne.mpr c9
                  obtain rfl := Option.some.inj H
                  go_wp2
                  go_ret
                  exact ⟨by first | rfl | (simp; done) | (simp [*]; done), by repeat (first | exact Drawn0.refl _ | apply Drawn0.step)⟩
end Go.Proofs.Ytjdgjifacdnkgaa.X
end
section
namespace Go.Proofs.Ytjdgjifacdnkgaa.X
open Go.RowKit Go.Proofs.YtjdgjifacdnkgaaW.PrintWords Go.Proofs.YtjdgjifacdnkgaaW.PrintLast Go.Proofs.YtjdgjifacdnkgaaW.PrintMore
attribute [local go_sem] max2_int min2_int max_two min_two max_three min_three max_four min_four
set_option linter.unusedVariables false
set_option linter.unusedSimpArgs false
mutual
def sealringref04_digit.j0 : Nat → Int → Bool → Option (Int)
  | 0, _, _ => none
  | k + 1, x0, x8 => if x8 = true then (some ((x0 - 48) % 256)) else (if x0 ≥ 97 then (sealringref04_digit.j1 k x0 (decide (x0 ≤ 102))) else (sealringref04_digit.j1 k x0 false))
def sealringref04_digit.j1 : Nat → Int → Bool → Option (Int)
  | 0, _, _ => none
  | k + 1, x0, x17 => if x17 = true then (some (((x0 - 97) % 256) + 10)) else (if x0 ≥ 65 then (if x0 ≤ 70 then (some (((x0 - 65) % 256) + 10)) else (some (-1))) else (some (-1)))
end
def sealringref04_digit.f (k : Nat) (a0 : Int) : Option (Int) := if a0 ≥ 48 then (sealringref04_digit.j0 k a0 (decide (a0 ≤ 57))) else (sealringref04_digit.j0 k a0 false)
theorem sealringref04_digit.mono_l : ∀ k, (∀ y0 y1, LeO (sealringref04_digit.j0 k y0 y1) (sealringref04_digit.j0 (k + 1) y0 y1)) ∧ (∀ y0 y1, LeO (sealringref04_digit.j1 k y0 y1) (sealringref04_digit.j1 (k + 1) y0 y1))
  | 0 => ⟨fun _ _ r h => by simp [sealringref04_digit.j0] at h, fun _ _ r h => by simp [sealringref04_digit.j1] at h⟩
  | k + 1 => by
    obtain ⟨ih0, ih1⟩ := sealringref04_digit.mono_l k
    refine ⟨?_, ?_⟩
    · intro y0 y1
      unfold sealringref04_digit.j0
      repeat' first
      | (with_reducible exact ih0 _ _)
      | (with_reducible exact ih1 _ _)
      | (with_reducible exact LeO.refl _)
      | (with_reducible exact LeO.none _)
      | (with_reducible refine LeO.ite ?_ ?_)
      | (with_reducible refine LeO.bind ?_ (fun _ => ?_))
      | exact ih0 _ _
      | exact ih1 _ _
      | exact LeO.none _
      | refine LeO.ite ?_ ?_
      | refine LeO.bind ?_ (fun _ => ?_)
    · intro y0 y1
      unfold sealringref04_digit.j1
      repeat' first
      | (with_reducible exact ih0 _ _)
      | (with_reducible exact ih1 _ _)
      | (with_reducible exact LeO.refl _)
      | (with_reducible exact LeO.none _)
      | (with_reducible refine LeO.ite ?_ ?_)
      | (with_reducible refine LeO.bind ?_ (fun _ => ?_))
      | exact ih0 _ _
      | exact ih1 _ _
      | exact LeO.none _
      | refine LeO.ite ?_ ?_
      | refine LeO.bind ?_ (fun _ => ?_)
theorem sealringref04_digit.mono : ∀ a0 k, LeO (sealringref04_digit.f k a0) (sealringref04_digit.f (k + 1) a0) := by
  intro a0 k
  obtain ⟨ih0, ih1⟩ := sealringref04_digit.mono_l k
  unfold sealringref04_digit.f
  repeat' first
      | (with_reducible exact ih0 _ _)
      | (with_reducible exact ih1 _ _)
      | (with_reducible exact LeO.refl _)
      | (with_reducible exact LeO.none _)
      | (with_reducible refine LeO.ite ?_ ?_)
      | (with_reducible refine LeO.bind ?_ (fun _ => ?_))
      | exact ih0 _ _
      | exact ih1 _ _
      | exact LeO.none _
      | refine LeO.ite ?_ ?_
      | refine LeO.bind ?_ (fun _ => ?_)
set_option maxHeartbeats 8000000 in
set_option maxRecDepth 100000 in
theorem sealringref04_digit.calls (k : Nat) (a0 : Int) (r : Int) (w : World) (h : sealringref04_digit.f k a0 = some r) :
    Calls Try.prog 49 #[.int .u8 a0] w fun e w' => e = .returned (.int .i64 r) ∧ Drawn0 w w' := by
  have H : (if a0 ≥ 48 then (sealringref04_digit.j0 k a0 (decide (a0 ≤ 57))) else (sealringref04_digit.j0 k a0 false)) = some r := h
  clear h
  have HC2 := Aside0.mk H
  clear H
  go_enter Try.func49, Try.ntmps49
  go_upto_region 1 with (fail)
  go_cut [8] (fun v8 wc => ∃ (kq : Nat) (x8_1 : Bool), v8 = .bool x8_1 ∧ Aside0 (sealringref04_digit.j0 kq a0 x8_1 = some r) ∧ Aside0 (kq ≤ k) ∧ Drawn0 w wc)
  case first =>
    have H := HC2.out
    clear HC2
    by_cases c3 : a0 ≥ 48
    · rw [if_pos c3] at H
      have c3b0 : decide (48 ≤ a0) = true := decide_eq_true c3
      clear c3
      (first | rw [c3b0] | (simp only [i64_w, i32_w]; rw [c3b0]) | skip)
      have H' := Aside0.mk H
      clear H
      go_wp2
      go_meet
      case rel => exact ⟨_, (decide (a0 ≤ 57)), (by first | rfl | (simp; done) | (simp [*]; done) | (simp [wrap64]; done)), (by first | with_reducible exact H' | exact H' | (subst_vars; exact H')), ⟨by first | omega | exact Nat.le_refl _⟩, by repeat (first | exact Drawn0.refl _ | apply Drawn0.step)⟩
    · rw [if_neg c3] at H
      have c3b0 : decide (48 ≤ a0) = false := decide_eq_false c3
      clear c3
      (first | rw [c3b0] | (simp only [i64_w, i32_w]; rw [c3b0]) | skip)
      have H' := Aside0.mk H
      clear H
      go_wp2
      go_meet
      case rel => exact ⟨_, (false), (by first | rfl | (simp; done) | (simp [*]; done) | (simp [wrap64]; done)), (by first | with_reducible exact H' | exact H' | (subst_vars; exact H')), ⟨by first | omega | exact Nat.le_refl _⟩, by repeat (first | exact Drawn0.refl _ | apply Drawn0.step)⟩
  case rest =>
    clear HC2
    try clear p2
    try clear c3
    try clear c3b0
    obtain ⟨kq, x8_1, rfl, HA, HJ1, ⟨mc1, rfl⟩⟩ := hcut
    cases kq with
    | zero => exact absurd HA.out (by simp [sealringref04_digit.j0])
    | succ kj1 =>
      have H := HA.out
      clear HA
      simp only [sealringref04_digit.j0] at H
      by_cases c4 : x8_1 = true
      · subst c4
        have H1 : (some ((a0 - 48) % 256)) = some r := by rw [if_pos rfl] at H; exact H
        clear H
        have H := H1
        clear H1
        obtain rfl := Option.some.inj H
        go_wp2
        go_ret
        exact ⟨by first | rfl | (simp; done) | (simp [*]; done), by repeat (first | exact Drawn0.refl _ | apply Drawn0.step)⟩
      · replace c4 := Bool.eq_false_iff.mpr c4
        subst c4
        have H1 : (if a0 ≥ 97 then (sealringref04_digit.j1 kj1 a0 (decide (a0 ≤ 102))) else (sealringref04_digit.j1 kj1 a0 false)) = some r := by rw [if_neg (show ¬ (false = true) by decide)] at H; exact H
        clear H
        have H := H1
        clear H1
        have HC5 := Aside0.mk H
        clear H
        go_upto_region 3 with (fail)
        go_cut [17] (fun v17 wc => ∃ (kq : Nat) (x17_4 : Bool), v17 = .bool x17_4 ∧ Aside0 (sealringref04_digit.j1 kq a0 x17_4 = some r) ∧ Aside0 (kq ≤ kj1) ∧ Drawn0 w wc)
        case first =>
          have H := HC5.out
          clear HC5
          by_cases c6 : a0 ≥ 97
          · rw [if_pos c6] at H
            have c6b0 : decide (97 ≤ a0) = true := decide_eq_true c6
            clear c6
            (first | rw [c6b0] | (simp only [i64_w, i32_w]; rw [c6b0]) | skip)
            have H' := Aside0.mk H
            clear H
            go_wp2
            go_meet
            case rel => exact ⟨_, (decide (a0 ≤ 102)), (by first | rfl | (simp; done) | (simp [*]; done) | (simp [wrap64]; done)), (by first | with_reducible exact H' | exact H' | (subst_vars; exact H')), ⟨by have := HJ1.out; first | omega | exact Nat.le_refl _⟩, by repeat (first | exact Drawn0.refl _ | apply Drawn0.step)⟩
          · rw [if_neg c6] at H
            have c6b0 : decide (97 ≤ a0) = false := decide_eq_false c6
            clear c6
            (first | rw [c6b0] | (simp only [i64_w, i32_w]; rw [c6b0]) | skip)
            have H' := Aside0.mk H
            clear H
            go_wp2
            go_meet
            case rel => exact ⟨_, (false), (by first | rfl | (simp; done) | (simp [*]; done) | (simp [wrap64]; done)), (by first | with_reducible exact H' | exact H' | (subst_vars; exact H')), ⟨by have := HJ1.out; first | omega | exact Nat.le_refl _⟩, by repeat (first | exact Drawn0.refl _ | apply Drawn0.step)⟩
        case rest =>
          clear HC5
          try clear c1
          try clear p2
          try clear c3
          try clear c3b0
          try clear c4
          try clear c6
          try clear c6b0
          try clear p2
          obtain ⟨kq, x17_4, rfl, HA, HJ4, ⟨mc4, rfl⟩⟩ := hcut
          cases kq with
          | zero => exact absurd HA.out (by simp [sealringref04_digit.j1])
          | succ kj4 =>
            have H := HA.out
            clear HA
            simp only [sealringref04_digit.j1] at H
            by_cases c7 : x17_4 = true
            · subst c7
              have H1 : (some (((a0 - 97) % 256) + 10)) = some r := by rw [if_pos rfl] at H; exact H
              clear H
              have H := H1
              clear H1
              obtain rfl := Option.some.inj H
              go_wp2
              go_ret
              exact ⟨by first | rfl | (simp; done) | (simp [*]; done), by repeat (first | exact Drawn0.refl _ | apply Drawn0.step)⟩
            · replace c7 := Bool.eq_false_iff.mpr c7
              subst c7
              have H1 : (if a0 ≥ 65 then (if a0 ≤ 70 then (some (((a0 - 65) % 256) + 10)) else (some (-1))) else (some (-1))) = some r := by rw [if_neg (show ¬ (false = true) by decide)] at H; exact H
              clear H
              have H := H1
              clear H1
              by_cases c8 : a0 ≥ 65
              · rw [if_pos c8] at H
                have c8b0 : decide (65 ≤ a0) = true := decide_eq_true c8
                clear c8
                by_cases c9 : a0 ≤ 70
                · rw [if_pos c9] at H
                  have c9b0 : decide (a0 ≤ 70) = true := decide_eq_true c9
                  clear c9
                  obtain rfl := Option.some.inj H
                  go_wp2
                  go_ret
                  exact ⟨by first | rfl | (simp; done) | (simp [*]; done), by repeat (first | exact Drawn0.refl _ | apply Drawn0.step)⟩
                · rw [if_neg c9] at H
                  have c9b0 : decide (a0 ≤ 70) = false := decide_eq_false c9
                  clear c9
                  obtain rfl := Option.some.inj H
                  go_wp2
                  go_ret
                  exact ⟨by first | rfl | (simp; done) | (simp [*]; done), by repeat (first | exact Drawn0.refl _ | apply Drawn0.step)⟩
              · rw [if_neg c8] at H
                have c8b0 : decide (65 ≤ a0) = false := decide_eq_false c8
                clear c8
                obtain rfl := Option.some.inj H
                go_wp2
                go_ret
                exact ⟨by first | rfl | (simp; done) | (simp [*]; done), by repeat (first | exact Drawn0.refl _ | apply Drawn0.step)⟩
end Go.Proofs.Ytjdgjifacdnkgaa.X
end
section
namespace Go.Proofs.Ytjdgjifacdnkgaa.X
open Go.RowKit Go.Proofs.YtjdgjifacdnkgaaW.PrintWords Go.Proofs.YtjdgjifacdnkgaaW.PrintLast Go.Proofs.YtjdgjifacdnkgaaW.PrintMore
attribute [local go_sem] max2_int min2_int max_two min_two max_three min_three max_four min_four
set_option linter.unusedVariables false
set_option linter.unusedSimpArgs false
def sealringref04_four.l0 : Nat → ByteArray → Int → Int → Int → Option (Int × Int)
  | 0, _, _, _, _ => none
  | k + 1, x0, x1, x6, x7 => if x7 < 4 then (if (wrap64 (x1 + x7)) ≥ (x0.size : Int) then (some (0, 5)) else (if 0 ≤ (wrap64 (x1 + x7)) then (if (wrap64 (x1 + x7)) < (x0.size : Int) then ((sealringref04_digit.f k (bt x0 (wrap64 (x1 + x7)))).bind fun t145 => (if t145 < 0 then (some (0, 11)) else (sealringref04_four.l0 k x0 x1 (wrap64 ((wrap64 (16 * x6)) + t145)) (wrap64 (x7 + 1))))) else (none)) else (none))) else (some (x6, 0))
def sealringref04_four.f (k : Nat) (a0 : ByteArray) (a1 : Int) : Option (Int × Int) := sealringref04_four.l0 k a0 a1 0 0
theorem sealringref04_four.mono_l : ∀ k, (∀ y0 y1 y2 y3, LeO (sealringref04_four.l0 k y0 y1 y2 y3) (sealringref04_four.l0 (k + 1) y0 y1 y2 y3))
  | 0 => fun _ _ _ _ r h => by simp [sealringref04_four.l0] at h
  | k + 1 => by
    have ih0 := sealringref04_four.mono_l k
    · intro y0 y1 y2 y3
      unfold sealringref04_four.l0
      repeat' first
      | (with_reducible exact ih0 _ _ _ _)
      | (with_reducible exact sealringref04_digit.mono _ _)
      | (with_reducible exact LeO.refl _)
      | (with_reducible exact LeO.none _)
      | (with_reducible refine LeO.ite ?_ ?_)
      | (with_reducible refine LeO.bind ?_ (fun _ => ?_))
      | exact ih0 _ _ _ _
      | exact sealringref04_digit.mono _ _
      | exact LeO.none _
      | refine LeO.ite ?_ ?_
      | refine LeO.bind ?_ (fun _ => ?_)
theorem sealringref04_four.mono : ∀ a0 a1 k, LeO (sealringref04_four.f k a0 a1) (sealringref04_four.f (k + 1) a0 a1) := by
  intro a0 a1 k
  have ih0 := sealringref04_four.mono_l k
  unfold sealringref04_four.f
  repeat' first
      | (with_reducible exact ih0 _ _ _ _)
      | (with_reducible exact sealringref04_digit.mono _ _)
      | (with_reducible exact LeO.refl _)
      | (with_reducible exact LeO.none _)
      | (with_reducible refine LeO.ite ?_ ?_)
      | (with_reducible refine LeO.bind ?_ (fun _ => ?_))
      | exact ih0 _ _ _ _
      | exact sealringref04_digit.mono _ _
      | exact LeO.none _
      | refine LeO.ite ?_ ?_
      | refine LeO.bind ?_ (fun _ => ?_)
set_option maxHeartbeats 8000000 in
set_option maxRecDepth 100000 in
theorem sealringref04_four.calls (k : Nat) (a0 : ByteArray) (a1 : Int) (r1 : Int) (r2 : Int) (w : World) (h : sealringref04_four.f k a0 a1 = some (r1, r2)) :
    Calls Try.prog 42 #[.string a0, .int .i64 a1] w fun e w' => e = .returned (.tuple #[.int .i64 r1, .int .i64 r2]) ∧ Drawn0 w w' := by
  have H : (sealringref04_four.l0 k a0 a1 0 0) = some (r1, r2) := h
  clear h
  have H' := Aside0.mk H
  clear H
  go_enter Try.func42, Try.ntmps42
  go_wp2
  go_loopg [6, 7] k (fun kq v6 v7 w' => ∃ (x6_1 : Int) (x7_1 : Int), v6 = .int .i64 x6_1 ∧ v7 = .int .i64 x7_1 ∧ Aside0 (sealringref04_four.l0 kq a0 a1 x6_1 x7_1 = some (r1, r2)) ∧ Aside0 (kq ≤ k) ∧ Drawn0 w w')
  case atStart => exact ⟨(0), (0), (by first | rfl | (simp; done) | (simp [*]; done) | (simp [wrap64]; done)), (by first | rfl | (simp; done) | (simp [*]; done) | (simp [wrap64]; done)), (by first | with_reducible exact H' | exact H' | (subst_vars; exact H')), ⟨Nat.le_refl _⟩, by repeat (first | exact Drawn0.refl _ | apply Drawn0.step)⟩
  case round =>
    clear H'
    try clear p2
    obtain ⟨x6_1, x7_1, rfl, rfl, HA, HK1, ⟨m1, rfl⟩⟩ := hrel
    cases gk with
    | zero => exact absurd HA.out (by simp [sealringref04_four.l0])
    | succ k1 =>
      have H := HA.out
      clear HA
      simp only [sealringref04_four.l0] at H
      by_cases c3 : x7_1 < 4
      · rw [if_pos c3] at H
        have c3b0 : decide (x7_1 < 4) = true := decide_eq_true c3
        clear c3
        by_cases c4 : (wrap64 (a1 + x7_1)) ≥ (a0.size : Int)
        · rw [if_pos c4] at H
          have c4b0 : decide ((a0.size : Int) ≤ (wrap64 (a1 + x7_1))) = true := decide_eq_true c4
          clear c4
          simp only [Option.some.injEq, Prod.mk.injEq] at H
          obtain ⟨rfl, rfl⟩ := H
          go_wp2
          go_ret2
          exact ⟨by first | rfl | (simp; done) | (simp [*]; done), by repeat (first | exact Drawn0.refl _ | apply Drawn0.step)⟩
        · rw [if_neg c4] at H
          have c4b0 : decide ((a0.size : Int) ≤ (wrap64 (a1 + x7_1))) = false := decide_eq_false c4
          clear c4
          obtain ⟨ji5, hji5⟩ : ∃ j_ : Int, (wrap64 (a1 + x7_1)) = j_ := ⟨_, rfl⟩
          replace H : (if 0 ≤ (ji5) then (if (ji5) < (a0.size : Int) then ((sealringref04_digit.f k1 (bt a0 (ji5))).bind fun t145 => (if t145 < 0 then (some (0, 11)) else (sealringref04_four.l0 k1 a0 a1 (wrap64 ((wrap64 (16 * x6_1)) + t145)) (wrap64 (x7_1 + 1))))) else (none)) else (none)) = some (r1, r2) := by first | (rw [hji5] at H; exact H) | (simp only [hji5] at H ⊢; exact H)
          (try rw [hji5] at c4b0)
          have hji5w : (IntKind.i64.wrap (a1 + x7_1)) = ji5 := (i64_w _).trans hji5
          by_cases c6 : 0 ≤ (ji5)
          · rw [if_pos c6] at H
            have c6b0 : decide (0 ≤ (ji5)) = true := decide_eq_true c6
            clear c6
            by_cases c7 : (ji5) < (a0.size : Int)
            · rw [if_pos c7] at H
              have c7b0 : decide ((ji5) < (a0.size : Int)) = true := decide_eq_true c7
              clear c7
              replace H := Option.bind_eq_some_iff.mp H
              obtain ⟨t145, A90, H⟩ := H
              replace H : (if t145 < 0 then (some (0, 11)) else (sealringref04_four.l0 k1 a0 a1 (wrap64 ((wrap64 (16 * x6_1)) + t145)) (wrap64 (x7_1 + 1)))) = some (r1, r2) := H
              have A9 := Aside0.mk A90
              clear A90
              by_cases c10 : t145 < 0
              · rw [if_pos c10] at H
                have c10b0 : decide (t145 < 0) = true := decide_eq_true c10
                clear c10
                simp only [Option.some.injEq, Prod.mk.injEq] at H
                obtain ⟨rfl, rfl⟩ := H
                have p8 : 0 ≤ ((ji5) : Int) := of_decide_eq_true (by first | (with_reducible assumption) | assumption)
                have q8 : (ji5) < (a0.size : Int) := of_decide_eq_true (by first | (with_reducible assumption) | assumption)
                have hx8 := bt_at a0 (ji5)
                replace p8 := eq_true p8
                replace q8 := eq_true q8
                go_wp2_with (first | ((with_reducible refine gate_callee (f := 49) rfl ?_); refine goesL_ (some 24) rfl rfl Try.func49 (by kernel_rfl) rfl #[.int .u8 (bt a0 (ji5))] rfl (by (try simp only [List.map_toArray, List.map_cons, List.map_nil]); first | done | (simp only [hji5]; rfl) | rfl | (simp only [List.length_drop, List.length_take]; rfl)) ?_; (with_reducible refine (sealringref04_digit.calls k1 (bt a0 (ji5)) t145 _ A9.out).mono ?_); rintro e w' ⟨rfl, ⟨nd, rfl⟩⟩; refine ⟨_, rfl, ?_⟩))
                go_ret2
                exact ⟨by first | rfl | (simp; done) | (simp only [← hji5] <;> (first | rfl | simp)) | (simp [*]; done), by repeat (first | exact Drawn0.refl _ | apply Drawn0.step)⟩
              · rw [if_neg c10] at H
                have c10b0 : decide (t145 < 0) = false := decide_eq_false c10
                clear c10
                have H' := Aside0.mk H
                clear H
                have p8 : 0 ≤ ((ji5) : Int) := of_decide_eq_true (by first | (with_reducible assumption) | assumption)
                have q8 : (ji5) < (a0.size : Int) := of_decide_eq_true (by first | (with_reducible assumption) | assumption)
                have hx8 := bt_at a0 (ji5)
                replace p8 := eq_true p8
                replace q8 := eq_true q8
                go_wp2_with (first | ((with_reducible refine gate_callee (f := 49) rfl ?_); refine goesL_ (some 24) rfl rfl Try.func49 (by kernel_rfl) rfl #[.int .u8 (bt a0 (ji5))] rfl (by (try simp only [List.map_toArray, List.map_cons, List.map_nil]); first | done | (simp only [hji5]; rfl) | rfl | (simp only [List.length_drop, List.length_take]; rfl)) ?_; (with_reducible refine (sealringref04_digit.calls k1 (bt a0 (ji5)) t145 _ A9.out).mono ?_); rintro e w' ⟨rfl, ⟨nd, rfl⟩⟩; refine ⟨_, rfl, ?_⟩))
                go_roundg k1
                case measure => have := HK1.out; omega
                case rel => exact ⟨(wrap64 ((wrap64 (16 * x6_1)) + t145)), (wrap64 (x7_1 + 1)), (by first | rfl | (simp; done) | (simp [*]; done) | (simp [wrap64]; done)), (by first | rfl | (simp; done) | (simp [*]; done) | (simp [wrap64]; done)), (by first | with_reducible exact H' | exact H' | (subst_vars; exact H')), ⟨by have := HK1.out; omega⟩, by repeat (first | exact Drawn0.refl _ | apply Drawn0.step)⟩
            · rw [if_neg c7] at H
              exact absurd H (by simp)
          · rw [if_neg c6] at H
            exact absurd H (by simp)
      · rw [if_neg c3] at H
        have c3b0 : decide (x7_1 < 4) = false := decide_eq_false c3
        clear c3
        simp only [Option.some.injEq, Prod.mk.injEq] at H
        obtain ⟨rfl, rfl⟩ := H
        go_wp2
        go_ret2
        exact ⟨by first | rfl | (simp; done) | (simp [*]; done), by repeat (first | exact Drawn0.refl _ | apply Drawn0.step)⟩
end Go.Proofs.Ytjdgjifacdnkgaa.X
end
section
namespace Go.Proofs.Ytjdgjifacdnkgaa.X
open Go.RowKit Go.Proofs.YtjdgjifacdnkgaaW.PrintWords Go.Proofs.YtjdgjifacdnkgaaW.PrintLast Go.Proofs.YtjdgjifacdnkgaaW.PrintMore
attribute [local go_sem] max2_int min2_int max_two min_two max_three min_three max_four min_four
set_option linter.unusedVariables false
set_option linter.unusedSimpArgs false
def sealringref04_pair.f (k : Nat) (a0 : ByteArray) (a1 : Int) : Option (Int × Int) := if a1 ≥ (a0.size : Int) then (some (0, 5)) else (if 0 ≤ a1 then (if a1 < (a0.size : Int) then (if (bt a0 a1) = 92 then (if (wrap64 (a1 + 1)) ≥ (a0.size : Int) then (some (0, 5)) else (if 0 ≤ (wrap64 (a1 + 1)) then (if (wrap64 (a1 + 1)) < (a0.size : Int) then (if (bt a0 (wrap64 (a1 + 1))) = 117 then ((sealringref04_four.f k a0 (wrap64 (a1 + 2))).bind fun bt146 => (if bt146.2 = 0 then (if bt146.1 < 56320 then (some (0, 11)) else (if bt146.1 > 57343 then (some (0, 11)) else (some (bt146.1, bt146.2)))) else (some (bt146.1, bt146.2)))) else (some (0, 11))) else (none)) else (none))) else (some (0, 11))) else (none)) else (none))
theorem sealringref04_pair.mono : ∀ a0 a1 k, LeO (sealringref04_pair.f k a0 a1) (sealringref04_pair.f (k + 1) a0 a1) := by
  intro a0 a1 k
  unfold sealringref04_pair.f
  repeat' first
      | (with_reducible exact sealringref04_four.mono _ _ _)
      | (with_reducible exact LeO.refl _)
      | (with_reducible exact LeO.none _)
      | (with_reducible refine LeO.ite ?_ ?_)
      | (with_reducible refine LeO.bind ?_ (fun _ => ?_))
      | exact sealringref04_four.mono _ _ _
      | exact LeO.none _
      | refine LeO.ite ?_ ?_
      | refine LeO.bind ?_ (fun _ => ?_)
set_option maxHeartbeats 8000000 in
set_option maxRecDepth 100000 in
theorem sealringref04_pair.calls (k : Nat) (a0 : ByteArray) (a1 : Int) (r1 : Int) (r2 : Int) (w : World) (h : sealringref04_pair.f k a0 a1 = some (r1, r2)) :
    Calls Try.prog 43 #[.string a0, .int .i64 a1] w fun e w' => e = .returned (.tuple #[.int .i64 r1, .int .i64 r2]) ∧ Drawn0 w w' := by
  have H : (if a1 ≥ (a0.size : Int) then (some (0, 5)) else (if 0 ≤ a1 then (if a1 < (a0.size : Int) then (if (bt a0 a1) = 92 then (if (wrap64 (a1 + 1)) ≥ (a0.size : Int) then (some (0, 5)) else (if 0 ≤ (wrap64 (a1 + 1)) then (if (wrap64 (a1 + 1)) < (a0.size : Int) then (if (bt a0 (wrap64 (a1 + 1))) = 117 then ((sealringref04_four.f k a0 (wrap64 (a1 + 2))).bind fun bt146 => (if bt146.2 = 0 then (if bt146.1 < 56320 then (some (0, 11)) else (if bt146.1 > 57343 then (some (0, 11)) else (some (bt146.1, bt146.2)))) else (some (bt146.1, bt146.2)))) else (some (0, 11))) else (none)) else (none))) else (some (0, 11))) else (none)) else (none))) = some (r1, r2) := h
  clear h
  by_cases c3 : a1 ≥ (a0.size : Int)
  · rw [if_pos c3] at H
    have c3b0 : decide ((a0.size : Int) ≤ a1) = true := decide_eq_true c3
    clear c3
    simp only [Option.some.injEq, Prod.mk.injEq] at H
    obtain ⟨rfl, rfl⟩ := H
    go_enter Try.func43, Try.ntmps43
    go_wp2
    go_ret2
    exact ⟨by first | rfl | (simp; done) | (simp [*]; done), by repeat (first | exact Drawn0.refl _ | apply Drawn0.step)⟩
  · rw [if_neg c3] at H
    have c3b0 : decide ((a0.size : Int) ≤ a1) = false := decide_eq_false c3
    clear c3
    by_cases c4 : 0 ≤ a1
    · rw [if_pos c4] at H
      have c4b0 : decide (0 ≤ a1) = true := decide_eq_true c4
      clear c4
      by_cases c5 : a1 < (a0.size : Int)
      · rw [if_pos c5] at H
        have c5b0 : decide (a1 < (a0.size : Int)) = true := decide_eq_true c5
        clear c5
        by_cases c7 : (bt a0 a1) = 92
        · rw [if_pos c7] at H
          have c7b0 : ((bt a0 a1) == 92) = true := beq_iff_eq.mpr c7
          have c7b1 : ((bt a0 a1) != 92) = false := bne_eq_false_iff_eq.mpr c7
          clear c7
          by_cases c8 : (wrap64 (a1 + 1)) ≥ (a0.size : Int)
          · rw [if_pos c8] at H
            have c8b0 : decide ((a0.size : Int) ≤ (wrap64 (a1 + 1))) = true := decide_eq_true c8
            clear c8
            simp only [Option.some.injEq, Prod.mk.injEq] at H
            obtain ⟨rfl, rfl⟩ := H
            have p6 : 0 ≤ (a1 : Int) := of_decide_eq_true (by first | (with_reducible assumption) | assumption)
            have q6 : a1 < (a0.size : Int) := of_decide_eq_true (by first | (with_reducible assumption) | assumption)
            have hx6 := bt_at a0 a1
            replace p6 := eq_true p6
            replace q6 := eq_true q6
            go_enter Try.func43, Try.ntmps43
            go_wp2
            go_ret2
            exact ⟨by first | rfl | (simp; done) | (simp [*]; done), by repeat (first | exact Drawn0.refl _ | apply Drawn0.step)⟩
          · rw [if_neg c8] at H
            have c8b0 : decide ((a0.size : Int) ≤ (wrap64 (a1 + 1))) = false := decide_eq_false c8
            clear c8
            obtain ⟨ji9, hji9⟩ : ∃ j_ : Int, (wrap64 (a1 + 1)) = j_ := ⟨_, rfl⟩
            replace H : (if 0 ≤ (ji9) then (if (ji9) < (a0.size : Int) then (if (bt a0 (ji9)) = 117 then ((sealringref04_four.f k a0 (wrap64 (a1 + 2))).bind fun bt146 => (if bt146.2 = 0 then (if bt146.1 < 56320 then (some (0, 11)) else (if bt146.1 > 57343 then (some (0, 11)) else (some (bt146.1, bt146.2)))) else (some (bt146.1, bt146.2)))) else (some (0, 11))) else (none)) else (none)) = some (r1, r2) := by first | (rw [hji9] at H; exact H) | (simp only [hji9] at H ⊢; exact H)
            (try rw [hji9] at c8b0)
            have hji9w : (IntKind.i64.wrap (a1 + 1)) = ji9 := (i64_w _).trans hji9
            by_cases c10 : 0 ≤ (ji9)
            · rw [if_pos c10] at H
              have c10b0 : decide (0 ≤ (ji9)) = true := decide_eq_true c10
              clear c10
              by_cases c11 : (ji9) < (a0.size : Int)
              · rw [if_pos c11] at H
                have c11b0 : decide ((ji9) < (a0.size : Int)) = true := decide_eq_true c11
                clear c11
                by_cases c13 : (bt a0 (ji9)) = 117
                · rw [if_pos c13] at H
                  have c13b0 : ((bt a0 (ji9)) == 117) = true := beq_iff_eq.mpr c13
                  have c13b1 : ((bt a0 (ji9)) != 117) = false := bne_eq_false_iff_eq.mpr c13
                  clear c13
                  replace H := Option.bind_eq_some_iff.mp H
                  obtain ⟨⟨t146, t147⟩, A140, H⟩ := H
                  replace H : (if t147 = 0 then (if t146 < 56320 then (some (0, 11)) else (if t146 > 57343 then (some (0, 11)) else (some (t146, t147)))) else (some (t146, t147))) = some (r1, r2) := H
                  have A14 := Aside0.mk A140
                  clear A140
                  by_cases c15 : t147 = 0
                  · rw [if_pos c15] at H
                    have c15b0 : (t147 == 0) = true := beq_iff_eq.mpr c15
                    have c15b1 : (t147 != 0) = false := bne_eq_false_iff_eq.mpr c15
                    clear c15
                    by_cases c16 : t146 < 56320
                    · rw [if_pos c16] at H
                      have c16b0 : decide (t146 < 56320) = true := decide_eq_true c16
                      clear c16
                      simp only [Option.some.injEq, Prod.mk.injEq] at H
                      obtain ⟨rfl, rfl⟩ := H
                      have p6 : 0 ≤ (a1 : Int) := of_decide_eq_true (by first | (with_reducible assumption) | assumption)
                      have q6 : a1 < (a0.size : Int) := of_decide_eq_true (by first | (with_reducible assumption) | assumption)
                      have hx6 := bt_at a0 a1
                      replace p6 := eq_true p6
                      replace q6 := eq_true q6
                      have p12 : 0 ≤ ((ji9) : Int) := of_decide_eq_true (by first | (with_reducible assumption) | assumption)
                      have q12 : (ji9) < (a0.size : Int) := of_decide_eq_true (by first | (with_reducible assumption) | assumption)
                      have hx12 := bt_at a0 (ji9)
                      replace p12 := eq_true p12
                      replace q12 := eq_true q12
                      go_enter Try.func43, Try.ntmps43
                      go_wp2_with (first | ((with_reducible refine gate_callee (f := 42) rfl ?_); refine goesL_ (some 30) rfl rfl Try.func42 (by kernel_rfl) rfl #[.string a0, .int .i64 (wrap64 (a1 + 2))] rfl (by (try simp only [List.map_toArray, List.map_cons, List.map_nil]); first | done | rfl | (simp only [List.length_drop, List.length_take]; rfl)) ?_; (with_reducible refine (sealringref04_four.calls k a0 (wrap64 (a1 + 2)) t146 t147 _ A14.out).mono ?_); rintro e w' ⟨rfl, ⟨nd, rfl⟩⟩; refine ⟨_, rfl, ?_⟩))
                      go_ret2
                      exact ⟨by first | rfl | (simp; done) | (simp only [← hji9] <;> (first | rfl | simp)) | (simp [*]; done), by repeat (first | exact Drawn0.refl _ | apply Drawn0.step)⟩
                    · rw [if_neg c16] at H
                      have c16b0 : decide (t146 < 56320) = false := decide_eq_false c16
                      clear c16
                      by_cases c17 : t146 > 57343
                      · rw [if_pos c17] at H
                        have c17b0 : decide (57343 < t146) = true := decide_eq_true c17
                        clear c17
                        simp only [Option.some.injEq, Prod.mk.injEq] at H
                        obtain ⟨rfl, rfl⟩ := H
                        have p6 : 0 ≤ (a1 : Int) := of_decide_eq_true (by first | (with_reducible assumption) | assumption)
                        have q6 : a1 < (a0.size : Int) := of_decide_eq_true (by first | (with_reducible assumption) | assumption)
                        have hx6 := bt_at a0 a1
                        replace p6 := eq_true p6
                        replace q6 := eq_true q6
                        have p12 : 0 ≤ ((ji9) : Int) := of_decide_eq_true (by first | (with_reducible assumption) | assumption)
                        have q12 : (ji9) < (a0.size : Int) := of_decide_eq_true (by first | (with_reducible assumption) | assumption)
                        have hx12 := bt_at a0 (ji9)
                        replace p12 := eq_true p12
                        replace q12 := eq_true q12
                        go_enter Try.func43, Try.ntmps43
                        go_wp2_with (first | ((with_reducible refine gate_callee (f := 42) rfl ?_); refine goesL_ (some 30) rfl rfl Try.func42 (by kernel_rfl) rfl #[.string a0, .int .i64 (wrap64 (a1 + 2))] rfl (by (try simp only [List.map_toArray, List.map_cons, List.map_nil]); first | done | rfl | (simp only [List.length_drop, List.length_take]; rfl)) ?_; (with_reducible refine (sealringref04_four.calls k a0 (wrap64 (a1 + 2)) t146 t147 _ A14.out).mono ?_); rintro e w' ⟨rfl, ⟨nd, rfl⟩⟩; refine ⟨_, rfl, ?_⟩))
                        go_ret2
                        exact ⟨by first | rfl | (simp; done) | (simp only [← hji9] <;> (first | rfl | simp)) | (simp [*]; done), by repeat (first | exact Drawn0.refl _ | apply Drawn0.step)⟩
                      · rw [if_neg c17] at H
                        have c17b0 : decide (57343 < t146) = false := decide_eq_false c17
                        clear c17
                        simp only [Option.some.injEq, Prod.mk.injEq] at H
                        obtain ⟨rfl, rfl⟩ := H
                        have p6 : 0 ≤ (a1 : Int) := of_decide_eq_true (by first | (with_reducible assumption) | assumption)
                        have q6 : a1 < (a0.size : Int) := of_decide_eq_true (by first | (with_reducible assumption) | assumption)
                        have hx6 := bt_at a0 a1
                        replace p6 := eq_true p6
                        replace q6 := eq_true q6
                        have p12 : 0 ≤ ((ji9) : Int) := of_decide_eq_true (by first | (with_reducible assumption) | assumption)
                        have q12 : (ji9) < (a0.size : Int) := of_decide_eq_true (by first | (with_reducible assumption) | assumption)
                        have hx12 := bt_at a0 (ji9)
                        replace p12 := eq_true p12
                        replace q12 := eq_true q12
                        go_enter Try.func43, Try.ntmps43
                        go_wp2_with (first | ((with_reducible refine gate_callee (f := 42) rfl ?_); refine goesL_ (some 30) rfl rfl Try.func42 (by kernel_rfl) rfl #[.string a0, .int .i64 (wrap64 (a1 + 2))] rfl (by (try simp only [List.map_toArray, List.map_cons, List.map_nil]); first | done | rfl | (simp only [List.length_drop, List.length_take]; rfl)) ?_; (with_reducible refine (sealringref04_four.calls k a0 (wrap64 (a1 + 2)) t146 t147 _ A14.out).mono ?_); rintro e w' ⟨rfl, ⟨nd, rfl⟩⟩; refine ⟨_, rfl, ?_⟩))
                        go_ret2
                        exact ⟨by first | rfl | (simp; done) | (simp only [← hji9] <;> (first | rfl | simp)) | (simp [*]; done), by repeat (first | exact Drawn0.refl _ | apply Drawn0.step)⟩
                  · rw [if_neg c15] at H
                    have c15b0 : (t147 == 0) = false := beq_eq_false_iff_ne.mpr c15
                    have c15b1 : (t147 != 0) = true := bne_iff_ne.mpr c15
                    simp only [Option.some.injEq, Prod.mk.injEq] at H
                    obtain ⟨rfl, rfl⟩ := H
                    have p6 : 0 ≤ (a1 : Int) := of_decide_eq_true (by first | (with_reducible assumption) | assumption)
                    have q6 : a1 < (a0.size : Int) := of_decide_eq_true (by first | (with_reducible assumption) | assumption)
                    have hx6 := bt_at a0 a1
                    replace p6 := eq_true p6
                    replace q6 := eq_true q6
                    have p12 : 0 ≤ ((ji9) : Int) := of_decide_eq_true (by first | (with_reducible assumption) | assumption)
                    have q12 : (ji9) < (a0.size : Int) := of_decide_eq_true (by first | (with_reducible assumption) | assumption)
                    have hx12 := bt_at a0 (ji9)
                    replace p12 := eq_true p12
                    replace q12 := eq_true q12
                    go_enter Try.func43, Try.ntmps43
                    go_wp2_with (first | ((with_reducible refine gate_callee (f := 42) rfl ?_); refine goesL_ (some 30) rfl rfl Try.func42 (by kernel_rfl) rfl #[.string a0, .int .i64 (wrap64 (a1 + 2))] rfl (by (try simp only [List.map_toArray, List.map_cons, List.map_nil]); first | done | rfl | (simp only [List.length_drop, List.length_take]; rfl)) ?_; (with_reducible refine (sealringref04_four.calls k a0 (wrap64 (a1 + 2)) t146 t147 _ A14.out).mono ?_); rintro e w' ⟨rfl, ⟨nd, rfl⟩⟩; refine ⟨_, rfl, ?_⟩))
                    go_ret2
                    exact ⟨by first | rfl | (simp; done) | (simp only [← hji9] <;> (first | rfl | simp)) | (simp [*]; done), by repeat (first | exact Drawn0.refl _ | apply Drawn0.step)⟩
                · rw [if_neg c13] at H
                  have c13b0 : ((bt a0 (ji9)) == 117) = false := beq_eq_false_iff_ne.mpr c13
                  have c13b1 : ((bt a0 (ji9)) != 117) = true := bne_iff_ne.mpr c13
                  simp only [Option.some.injEq, Prod.mk.injEq] at H
                  obtain ⟨rfl, rfl⟩ := H
                  have p6 : 0 ≤ (a1 : Int) := of_decide_eq_true (by first | (with_reducible assumption) | assumption)
                  have q6 : a1 < (a0.size : Int) := of_decide_eq_true (by first | (with_reducible assumption) | assumption)
                  have hx6 := bt_at a0 a1
                  replace p6 := eq_true p6
                  replace q6 := eq_true q6
                  have p12 : 0 ≤ ((ji9) : Int) := of_decide_eq_true (by first | (with_reducible assumption) | assumption)
                  have q12 : (ji9) < (a0.size : Int) := of_decide_eq_true (by first | (with_reducible assumption) | assumption)
                  have hx12 := bt_at a0 (ji9)
                  replace p12 := eq_true p12
                  replace q12 := eq_true q12
                  go_enter Try.func43, Try.ntmps43
                  go_wp2
                  go_ret2
                  exact ⟨by first | rfl | (simp; done) | (simp only [← hji9] <;> (first | rfl | simp)) | (simp [*]; done), by repeat (first | exact Drawn0.refl _ | apply Drawn0.step)⟩
              · rw [if_neg c11] at H
                exact absurd H (by simp)
            · rw [if_neg c10] at H
              exact absurd H (by simp)
        · rw [if_neg c7] at H
          have c7b0 : ((bt a0 a1) == 92) = false := beq_eq_false_iff_ne.mpr c7
          have c7b1 : ((bt a0 a1) != 92) = true := bne_iff_ne.mpr c7
          simp only [Option.some.injEq, Prod.mk.injEq] at H
          obtain ⟨rfl, rfl⟩ := H
          have p6 : 0 ≤ (a1 : Int) := of_decide_eq_true (by first | (with_reducible assumption) | assumption)
          have q6 : a1 < (a0.size : Int) := of_decide_eq_true (by first | (with_reducible assumption) | assumption)
          have hx6 := bt_at a0 a1
          replace p6 := eq_true p6
          replace q6 := eq_true q6
          go_enter Try.func43, Try.ntmps43
          go_wp2
          go_ret2
          exact ⟨by first | rfl | (simp; done) | (simp [*]; done), by repeat (first | exact Drawn0.refl _ | apply Drawn0.step)⟩
      · rw [if_neg c5] at H
        exact absurd H (by simp)
    · rw [if_neg c4] at H
      exact absurd H (by simp)
end Go.Proofs.Ytjdgjifacdnkgaa.X
end
section
namespace Go.Proofs.Ytjdgjifacdnkgaa.X
open Go.RowKit Go.Proofs.YtjdgjifacdnkgaaW.PrintWords Go.Proofs.YtjdgjifacdnkgaaW.PrintLast Go.Proofs.YtjdgjifacdnkgaaW.PrintMore
attribute [local go_sem] max2_int min2_int max_two min_two max_three min_three max_four min_four
set_option linter.unusedVariables false
set_option linter.unusedSimpArgs false
mutual
def sealringref04_escape.l0 : Nat → ByteArray → Int → Int → Int → Option (Int × Int × Int)
  | 0, _, _, _, _ => none
  | k + 1, x0, x1, x7, x8 => if x8 < 128 then ((sealringref04_small.f k x8).bind fun t148 => (if t148 = 0 then (sealringref04_escape.l0 k x0 x1 x7 (wrap64 (x8 + 1))) else ((sealringref04_small.f k x8).bind fun t149 => (if t149 = x7 then (some (x8, 1, 0)) else (sealringref04_escape.l0 k x0 x1 x7 (wrap64 (x8 + 1))))))) else (if x7 = 117 then ((sealringref04_four.f k x0 (wrap64 (x1 + 1))).bind fun bt150 => (if bt150.2 = 0 then (if bt150.1 < 55296 then (sealringref04_escape.j1 k x0 x1 bt150.1 true) else (sealringref04_escape.j1 k x0 x1 bt150.1 (decide (bt150.1 > 57343)))) else (some (0, 0, bt150.2)))) else (some (0, 0, 11)))
def sealringref04_escape.j1 : Nat → ByteArray → Int → Int → Bool → Option (Int × Int × Int)
  | 0, _, _, _, _ => none
  | k + 1, x0, x1, x9, x53 => if x53 = true then (some (x9, 5, 0)) else (if x9 > 56319 then (some (0, 0, 11)) else ((sealringref04_pair.f k x0 (wrap64 (x1 + 5))).bind fun bt152 => (if bt152.2 = 0 then (some (wrap64 ((wrap64 ((wrap64 (65536 + (wrap64 (1024 * (wrap64 (x9 - 55296)))))) + bt152.1)) - 56320), 11, 0)) else (some (0, 0, bt152.2)))))
end
def sealringref04_escape.f (k : Nat) (a0 : ByteArray) (a1 : Int) : Option (Int × Int × Int) := if a1 ≥ (a0.size : Int) then (some (0, 0, 5)) else (if 0 ≤ a1 then (if a1 < (a0.size : Int) then (if (bt a0 a1) = 47 then (some (47, 1, 0)) else (sealringref04_escape.l0 k a0 a1 (bt a0 a1) 0)) else (none)) else (none))
theorem sealringref04_escape.mono_l : ∀ k, (∀ y0 y1 y2 y3, LeO (sealringref04_escape.l0 k y0 y1 y2 y3) (sealringref04_escape.l0 (k + 1) y0 y1 y2 y3)) ∧ (∀ y0 y1 y2 y3, LeO (sealringref04_escape.j1 k y0 y1 y2 y3) (sealringref04_escape.j1 (k + 1) y0 y1 y2 y3))
  | 0 => ⟨fun _ _ _ _ r h => by simp [sealringref04_escape.l0] at h, fun _ _ _ _ r h => by simp [sealringref04_escape.j1] at h⟩
  | k + 1 => by
    obtain ⟨ih0, ih1⟩ := sealringref04_escape.mono_l k
    refine ⟨?_, ?_⟩
    · intro y0 y1 y2 y3
      unfold sealringref04_escape.l0
      repeat' first
      | (with_reducible exact ih0 _ _ _ _)
      | (with_reducible exact ih1 _ _ _ _)
      | (with_reducible exact sealringref04_four.mono _ _ _)
      | (with_reducible exact sealringref04_pair.mono _ _ _)
      | (with_reducible exact sealringref04_small.mono _ _)
      | (with_reducible exact LeO.refl _)
      | (with_reducible exact LeO.none _)
      | (with_reducible refine LeO.ite ?_ ?_)
      | (with_reducible refine LeO.bind ?_ (fun _ => ?_))
      | exact ih0 _ _ _ _
      | exact ih1 _ _ _ _
      | exact sealringref04_four.mono _ _ _
      | exact sealringref04_pair.mono _ _ _
      | exact sealringref04_small.mono _ _
      | exact LeO.none _
      | refine LeO.ite ?_ ?_
      | refine LeO.bind ?_ (fun _ => ?_)
    · intro y0 y1 y2 y3
      unfold sealringref04_escape.j1
      repeat' first
      | (with_reducible exact ih0 _ _ _ _)
      | (with_reducible exact ih1 _ _ _ _)
      | (with_reducible exact sealringref04_four.mono _ _ _)
      | (with_reducible exact sealringref04_pair.mono _ _ _)
      | (with_reducible exact sealringref04_small.mono _ _)
      | (with_reducible exact LeO.refl _)
      | (with_reducible exact LeO.none _)
      | (with_reducible refine LeO.ite ?_ ?_)
      | (with_reducible refine LeO.bind ?_ (fun _ => ?_))
      | exact ih0 _ _ _ _
      | exact ih1 _ _ _ _
      | exact sealringref04_four.mono _ _ _
      | exact sealringref04_pair.mono _ _ _
      | exact sealringref04_small.mono _ _
      | exact LeO.none _
      | refine LeO.ite ?_ ?_
      | refine LeO.bind ?_ (fun _ => ?_)
theorem sealringref04_escape.mono : ∀ a0 a1 k, LeO (sealringref04_escape.f k a0 a1) (sealringref04_escape.f (k + 1) a0 a1) := by
  intro a0 a1 k
  obtain ⟨ih0, ih1⟩ := sealringref04_escape.mono_l k
  unfold sealringref04_escape.f
  repeat' first
      | (with_reducible exact ih0 _ _ _ _)
      | (with_reducible exact ih1 _ _ _ _)
      | (with_reducible exact sealringref04_four.mono _ _ _)
      | (with_reducible exact sealringref04_pair.mono _ _ _)
      | (with_reducible exact sealringref04_small.mono _ _)
      | (with_reducible exact LeO.refl _)
      | (with_reducible exact LeO.none _)
      | (with_reducible refine LeO.ite ?_ ?_)
      | (with_reducible refine LeO.bind ?_ (fun _ => ?_))
      | exact ih0 _ _ _ _
      | exact ih1 _ _ _ _
      | exact sealringref04_four.mono _ _ _
      | exact sealringref04_pair.mono _ _ _
      | exact sealringref04_small.mono _ _
      | exact LeO.none _
      | refine LeO.ite ?_ ?_
      | refine LeO.bind ?_ (fun _ => ?_)
set_option maxHeartbeats 8000000 in
set_option maxRecDepth 100000 in
theorem sealringref04_escape.calls (k : Nat) (a0 : ByteArray) (a1 : Int) (r1 : Int) (r2 : Int) (r3 : Int) (w : World) (h : sealringref04_escape.f k a0 a1 = some (r1, r2, r3)) :
    Calls Try.prog 30 #[.string a0, .int .i64 a1] w fun e w' => e = .returned (.tuple #[.int .i64 r1, .int .i64 r2, .int .i64 r3]) ∧ Drawn0 w w' := by
  have H : (if a1 ≥ (a0.size : Int) then (some (0, 0, 5)) else (if 0 ≤ a1 then (if a1 < (a0.size : Int) then (if (bt a0 a1) = 47 then (some (47, 1, 0)) else (sealringref04_escape.l0 k a0 a1 (bt a0 a1) 0)) else (none)) else (none))) = some (r1, r2, r3) := h
  clear h
  by_cases c3 : a1 ≥ (a0.size : Int)
  · rw [if_pos c3] at H
    have c3b0 : decide ((a0.size : Int) ≤ a1) = true := decide_eq_true c3
    clear c3
    simp only [Option.some.injEq, Prod.mk.injEq] at H
    obtain ⟨rfl, rfl, rfl⟩ := H
    go_enter Try.func30, Try.ntmps30
    go_wp2
    go_ret3
    exact ⟨by first | rfl | (simp; done) | (simp [*]; done), by repeat (first | exact Drawn0.refl _ | apply Drawn0.step)⟩
  · rw [if_neg c3] at H
    have c3b0 : decide ((a0.size : Int) ≤ a1) = false := decide_eq_false c3
    clear c3
    by_cases c4 : 0 ≤ a1
    · rw [if_pos c4] at H
      have c4b0 : decide (0 ≤ a1) = true := decide_eq_true c4
      clear c4
      by_cases c5 : a1 < (a0.size : Int)
      · rw [if_pos c5] at H
        have c5b0 : decide (a1 < (a0.size : Int)) = true := decide_eq_true c5
        clear c5
        by_cases c7 : (bt a0 a1) = 47
        · rw [if_pos c7] at H
          have c7b0 : ((bt a0 a1) == 47) = true := beq_iff_eq.mpr c7
          have c7b1 : ((bt a0 a1) != 47) = false := bne_eq_false_iff_eq.mpr c7
          clear c7
          simp only [Option.some.injEq, Prod.mk.injEq] at H
          obtain ⟨rfl, rfl, rfl⟩ := H
          have p6 : 0 ≤ (a1 : Int) := of_decide_eq_true (by first | (with_reducible assumption) | assumption)
          have q6 : a1 < (a0.size : Int) := of_decide_eq_true (by first | (with_reducible assumption) | assumption)
          have hx6 := bt_at a0 a1
          replace p6 := eq_true p6
          replace q6 := eq_true q6
          go_enter Try.func30, Try.ntmps30
          go_wp2
          go_ret3
          exact ⟨by first | rfl | (simp; done) | (simp [*]; done), by repeat (first | exact Drawn0.refl _ | apply Drawn0.step)⟩
        · rw [if_neg c7] at H
          have c7b0 : ((bt a0 a1) == 47) = false := beq_eq_false_iff_ne.mpr c7
          have c7b1 : ((bt a0 a1) != 47) = true := bne_iff_ne.mpr c7
          have H' := Aside0.mk H
          clear H
          have p6 : 0 ≤ (a1 : Int) := of_decide_eq_true (by first | (with_reducible assumption) | assumption)
          have q6 : a1 < (a0.size : Int) := of_decide_eq_true (by first | (with_reducible assumption) | assumption)
          have hx6 := bt_at a0 a1
          replace p6 := eq_true p6
          replace q6 := eq_true q6
          go_enter Try.func30, Try.ntmps30
          go_wp2
          (try simp only [Go.IntKind.wrap_u8])
          go_loopg [8] k (fun kq v8 w' => ∃ (x8_1 : Int), v8 = .int .i64 x8_1 ∧ Aside0 (sealringref04_escape.l0 kq a0 a1 (bt a0 a1) x8_1 = some (r1, r2, r3)) ∧ Aside0 (kq ≤ k) ∧ Drawn0 w w')
          case atStart => exact ⟨(0), (by first | rfl | (simp; done) | (simp [*]; done) | (simp [wrap64]; done)), (by first | with_reducible exact H' | exact H' | (subst_vars; exact H')), ⟨Nat.le_refl _⟩, by repeat (first | exact Drawn0.refl _ | apply Drawn0.step)⟩
          case round =>
            clear H'
            try clear p2
            try clear c3
            try clear c3b0
            try clear c4
            try clear c4b0
            try clear c5
            try clear c5b0
            try clear p6
            try clear q6
            try clear hx6
            try clear c7
            try clear c7b0
            try clear c7b1
            try clear p6
            try clear q6
            obtain ⟨x8_1, rfl, HA, HK1, ⟨m1, rfl⟩⟩ := hrel
            cases gk with
            | zero => exact absurd HA.out (by simp [sealringref04_escape.l0])
            | succ k1 =>
              have H := HA.out
              clear HA
              simp only [sealringref04_escape.l0] at H
              by_cases c8 : x8_1 < 128
              · rw [if_pos c8] at H
                have c8b0 : decide (x8_1 < 128) = true := decide_eq_true c8
                clear c8
                replace H := Option.bind_eq_some_iff.mp H
                obtain ⟨t148, A90, H⟩ := H
                replace H : (if t148 = 0 then (sealringref04_escape.l0 k1 a0 a1 (bt a0 a1) (wrap64 (x8_1 + 1))) else ((sealringref04_small.f k1 x8_1).bind fun t149 => (if t149 = (bt a0 a1) then (some (x8_1, 1, 0)) else (sealringref04_escape.l0 k1 a0 a1 (bt a0 a1) (wrap64 (x8_1 + 1)))))) = some (r1, r2, r3) := H
                have A9 := Aside0.mk A90
                clear A90
                by_cases c10 : t148 = 0
                · rw [if_pos c10] at H
                  have c10b0 : (t148 == 0) = true := beq_iff_eq.mpr c10
                  have c10b1 : (t148 != 0) = false := bne_eq_false_iff_eq.mpr c10
                  clear c10
                  have H' := Aside0.mk H
                  clear H
                  go_wp2_with (first | ((with_reducible refine gate_callee (f := 41) rfl ?_); refine goesL_ (some 27) rfl rfl Try.func41 (by kernel_rfl) rfl #[.int .i64 x8_1] rfl (by (try simp only [List.map_toArray, List.map_cons, List.map_nil]); first | done | rfl | (simp only [List.length_drop, List.length_take]; rfl)) ?_; (with_reducible refine (sealringref04_small.calls k1 x8_1 t148 _ A9.out).mono ?_); rintro e w' ⟨rfl, ⟨nd, rfl⟩⟩; refine ⟨_, rfl, ?_⟩))
                  go_roundg k1
                  case measure => have := HK1.out; omega
                  case rel => exact ⟨(wrap64 (x8_1 + 1)), (by first | rfl | (simp; done) | (simp [*]; done) | (simp [wrap64]; done)), (by first | with_reducible exact H' | exact H' | (subst_vars; exact H')), ⟨by have := HK1.out; omega⟩, by repeat (first | exact Drawn0.refl _ | apply Drawn0.step)⟩
                · rw [if_neg c10] at H
                  have c10b0 : (t148 == 0) = false := beq_eq_false_iff_ne.mpr c10
                  have c10b1 : (t148 != 0) = true := bne_iff_ne.mpr c10
                  replace H := Option.bind_eq_some_iff.mp H
                  obtain ⟨t149, A110, H⟩ := H
                  replace H : (if t149 = (bt a0 a1) then (some (x8_1, 1, 0)) else (sealringref04_escape.l0 k1 a0 a1 (bt a0 a1) (wrap64 (x8_1 + 1)))) = some (r1, r2, r3) := H
                  have A11 := Aside0.mk A110
                  clear A110
                  have EA11 : t148 = t149 := Option.some.inj (A9.out.symm.trans A11.out)
                  subst EA11
                  by_cases c12 : t148 = (bt a0 a1)
                  · rw [if_pos c12] at H
                    have c12b0 : (t148 == (bt a0 a1)) = true := beq_iff_eq.mpr c12
                    have c12b1 : (t148 != (bt a0 a1)) = false := bne_eq_false_iff_eq.mpr c12
                    clear c12
                    simp only [Option.some.injEq, Prod.mk.injEq] at H
                    obtain ⟨rfl, rfl, rfl⟩ := H
                    go_wp2_with (first | ((with_reducible refine gate_callee (f := 41) rfl ?_); refine goesL_ (some 27) rfl rfl Try.func41 (by kernel_rfl) rfl #[.int .i64 x8_1] rfl (by (try simp only [List.map_toArray, List.map_cons, List.map_nil]); first | done | rfl | (simp only [List.length_drop, List.length_take]; rfl)) ?_; (with_reducible refine (sealringref04_small.calls k1 x8_1 t148 _ A9.out).mono ?_); rintro e w' ⟨rfl, ⟨nd, rfl⟩⟩; refine ⟨_, rfl, ?_⟩) | (go_at_call 41; (with_reducible refine (sealringref04_small.calls k1 x8_1 t148 _ A11.out).mono ?_); rintro e w' ⟨rfl, ⟨nd, rfl⟩⟩))
                    go_ret3
                    exact ⟨by first | rfl | (simp; done) | (simp [*]; done), by repeat (first | exact Drawn0.refl _ | apply Drawn0.step)⟩
                  · rw [if_neg c12] at H
                    have c12b0 : (t148 == (bt a0 a1)) = false := beq_eq_false_iff_ne.mpr c12
                    have c12b1 : (t148 != (bt a0 a1)) = true := bne_iff_ne.mpr c12
                    have H' := Aside0.mk H
                    clear H
                    go_wp2_with (first | ((with_reducible refine gate_callee (f := 41) rfl ?_); refine goesL_ (some 27) rfl rfl Try.func41 (by kernel_rfl) rfl #[.int .i64 x8_1] rfl (by (try simp only [List.map_toArray, List.map_cons, List.map_nil]); first | done | rfl | (simp only [List.length_drop, List.length_take]; rfl)) ?_; (with_reducible refine (sealringref04_small.calls k1 x8_1 t148 _ A9.out).mono ?_); rintro e w' ⟨rfl, ⟨nd, rfl⟩⟩; refine ⟨_, rfl, ?_⟩) | (go_at_call 41; (with_reducible refine (sealringref04_small.calls k1 x8_1 t148 _ A11.out).mono ?_); rintro e w' ⟨rfl, ⟨nd, rfl⟩⟩))
                    go_roundg k1
                    case measure => have := HK1.out; omega
                    case rel => exact ⟨(wrap64 (x8_1 + 1)), (by first | rfl | (simp; done) | (simp [*]; done) | (simp [wrap64]; done)), (by first | with_reducible exact H' | exact H' | (subst_vars; exact H')), ⟨by have := HK1.out; omega⟩, by repeat (first | exact Drawn0.refl _ | apply Drawn0.step)⟩
              · rw [if_neg c8] at H
                have c8b0 : decide (x8_1 < 128) = false := decide_eq_false c8
                clear c8
                by_cases c13 : (bt a0 a1) = 117
                · rw [if_pos c13] at H
                  have c13b0 : ((bt a0 a1) == 117) = true := beq_iff_eq.mpr c13
                  have c13b1 : ((bt a0 a1) != 117) = false := bne_eq_false_iff_eq.mpr c13
                  clear c13
                  replace H := Option.bind_eq_some_iff.mp H
                  obtain ⟨⟨t150, t151⟩, A140, H⟩ := H
                  replace H : (if t151 = 0 then (if t150 < 55296 then (sealringref04_escape.j1 k1 a0 a1 t150 true) else (sealringref04_escape.j1 k1 a0 a1 t150 (decide (t150 > 57343)))) else (some (0, 0, t151))) = some (r1, r2, r3) := H
                  have A14 := Aside0.mk A140
                  clear A140
                  by_cases c15 : t151 = 0
                  · rw [if_pos c15] at H
                    have c15b0 : (t151 == 0) = true := beq_iff_eq.mpr c15
                    have c15b1 : (t151 != 0) = false := bne_eq_false_iff_eq.mpr c15
                    clear c15
                    have HC16 := Aside0.mk H
                    clear H
                    go_upto_region 16 with (first | ((with_reducible refine gate_callee (f := 42) rfl ?_); refine goesL_ (some 42) rfl rfl Try.func42 (by kernel_rfl) rfl #[.string a0, .int .i64 (wrap64 (a1 + 1))] rfl (by (try simp only [List.map_toArray, List.map_cons, List.map_nil]); first | done | rfl | (simp only [List.length_drop, List.length_take]; rfl)) ?_; (with_reducible refine (sealringref04_four.calls k1 a0 (wrap64 (a1 + 1)) t150 t151 _ A14.out).mono ?_); rintro e w' ⟨rfl, ⟨nd, rfl⟩⟩; refine ⟨_, rfl, ?_⟩))
                    (try simp only [Act.put, List.setIfInBounds_toArray, List.set_cons_zero, List.set_cons_succ])
                    go_cut [53] (fun v53 wc => ∃ (kq : Nat) (x53_15 : Bool), v53 = .bool x53_15 ∧ Aside0 (sealringref04_escape.j1 kq a0 a1 t150 x53_15 = some (r1, r2, r3)) ∧ Aside0 (kq ≤ k1) ∧ Drawn0 w wc)
                    case first =>
                      have H := HC16.out
                      clear HC16
                      by_cases c17 : t150 < 55296
                      · rw [if_pos c17] at H
                        have c17b0 : decide (t150 < 55296) = true := decide_eq_true c17
                        clear c17
                        (first | rw [c17b0] | (simp only [i64_w, i32_w]; rw [c17b0]) | skip)
                        have H' := Aside0.mk H
                        clear H
                        go_wp2
                        go_meet
                        case rel => exact ⟨_, (true), (by first | rfl | (simp; done) | (simp [*]; done) | (simp [wrap64]; done)), (by first | with_reducible exact H' | exact H' | (subst_vars; exact H')), ⟨by have := HK1.out; first | omega | exact Nat.le_refl _⟩, by repeat (first | exact Drawn0.refl _ | apply Drawn0.step)⟩
                      · rw [if_neg c17] at H
                        have c17b0 : decide (t150 < 55296) = false := decide_eq_false c17
                        clear c17
                        (first | rw [c17b0] | (simp only [i64_w, i32_w]; rw [c17b0]) | skip)
                        have H' := Aside0.mk H
                        clear H
                        go_wp2
                        go_meet
                        case rel => exact ⟨_, (decide (t150 > 57343)), (by first | rfl | (simp; done) | (simp [*]; done) | (simp [wrap64]; done)), (by first | with_reducible exact H' | exact H' | (subst_vars; exact H')), ⟨by have := HK1.out; first | omega | exact Nat.le_refl _⟩, by repeat (first | exact Drawn0.refl _ | apply Drawn0.step)⟩
                    case rest =>
                      clear HC16
                      try clear c1
                      try clear p2
                      try clear c3
                      try clear c3b0
                      try clear c4
                      try clear c4b0
                      try clear c5
                      try clear c5b0
                      try clear p6
                      try clear q6
                      try clear hx6
                      try clear c7
                      try clear c7b0
                      try clear c7b1
                      try clear c8
                      try clear c8b0
                      try clear c10
                      try clear c10b0
                      try clear c10b1
                      try clear c12
                      try clear c12b0
                      try clear c12b1
                      try clear c13
                      try clear c13b0
                      try clear c13b1
                      try clear c15
                      try clear c15b0
                      try clear c15b1
                      try clear c17
                      try clear c17b0
                      try clear p2
                      try clear p6
                      try clear q6
                      obtain ⟨kq, x53_15, rfl, HA, HJ15, ⟨mc15, rfl⟩⟩ := hcut
                      cases kq with
                      | zero => exact absurd HA.out (by simp [sealringref04_escape.j1])
                      | succ kj15 =>
                        have H := HA.out
                        clear HA
                        simp only [sealringref04_escape.j1] at H
                        by_cases c18 : x53_15 = true
                        · subst c18
                          have H1 : (some (t150, 5, 0)) = some (r1, r2, r3) := by rw [if_pos rfl] at H; exact H
                          clear H
                          have H := H1
                          clear H1
                          simp only [Option.some.injEq, Prod.mk.injEq] at H
                          obtain ⟨rfl, rfl, rfl⟩ := H
                          go_wp2
                          go_ret3
                          exact ⟨by first | rfl | (simp; done) | (simp [*]; done), by repeat (first | exact Drawn0.refl _ | apply Drawn0.step)⟩
                        · replace c18 := Bool.eq_false_iff.mpr c18
                          subst c18
                          have H1 : (if t150 > 56319 then (some (0, 0, 11)) else ((sealringref04_pair.f kj15 a0 (wrap64 (a1 + 5))).bind fun bt152 => (if bt152.2 = 0 then (some (wrap64 ((wrap64 ((wrap64 (65536 + (wrap64 (1024 * (wrap64 (t150 - 55296)))))) + bt152.1)) - 56320), 11, 0)) else (some (0, 0, bt152.2))))) = some (r1, r2, r3) := by rw [if_neg (show ¬ (false = true) by decide)] at H; exact H
                          clear H
                          have H := H1
                          clear H1
                          by_cases c19 : t150 > 56319
                          · rw [if_pos c19] at H
                            have c19b0 : decide (56319 < t150) = true := decide_eq_true c19
                            clear c19
                            simp only [Option.some.injEq, Prod.mk.injEq] at H
                            obtain ⟨rfl, rfl, rfl⟩ := H
                            go_wp2
                            go_ret3
                            exact ⟨by first | rfl | (simp; done) | (simp [*]; done), by repeat (first | exact Drawn0.refl _ | apply Drawn0.step)⟩
                          · rw [if_neg c19] at H
                            have c19b0 : decide (56319 < t150) = false := decide_eq_false c19
                            clear c19
                            replace H := Option.bind_eq_some_iff.mp H
                            obtain ⟨⟨t152, t153⟩, A200, H⟩ := H
                            replace H : (if t153 = 0 then (some (wrap64 ((wrap64 ((wrap64 (65536 + (wrap64 (1024 * (wrap64 (t150 - 55296)))))) + t152)) - 56320), 11, 0)) else (some (0, 0, t153))) = some (r1, r2, r3) := H
                            have A20 := Aside0.mk A200
                            clear A200
                            by_cases c21 : t153 = 0
                            · rw [if_pos c21] at H
                              have c21b0 : (t153 == 0) = true := beq_iff_eq.mpr c21
                              have c21b1 : (t153 != 0) = false := bne_eq_false_iff_eq.mpr c21
                              clear c21
                              simp only [Option.some.injEq, Prod.mk.injEq] at H
                              obtain ⟨rfl, rfl, rfl⟩ := H
                              go_wp2_with (first | ((with_reducible refine gate_callee (f := 43) rfl ?_); refine goesL_ (some 61) rfl rfl Try.func43 (by kernel_rfl) rfl #[.string a0, .int .i64 (wrap64 (a1 + 5))] rfl (by (try simp only [List.map_toArray, List.map_cons, List.map_nil]); first | done | rfl | (simp only [List.length_drop, List.length_take]; rfl)) ?_; (with_reducible refine (sealringref04_pair.calls kj15 a0 (wrap64 (a1 + 5)) t152 t153 _ A20.out).mono ?_); rintro e w' ⟨rfl, ⟨nd, rfl⟩⟩; refine ⟨_, rfl, ?_⟩))
                              go_ret3
                              exact ⟨by first | rfl | (simp; done) | (simp [*]; done), by repeat (first | exact Drawn0.refl _ | apply Drawn0.step)⟩
                            · rw [if_neg c21] at H
                              have c21b0 : (t153 == 0) = false := beq_eq_false_iff_ne.mpr c21
                              have c21b1 : (t153 != 0) = true := bne_iff_ne.mpr c21
                              simp only [Option.some.injEq, Prod.mk.injEq] at H
                              obtain ⟨rfl, rfl, rfl⟩ := H
                              go_wp2_with (first | ((with_reducible refine gate_callee (f := 43) rfl ?_); refine goesL_ (some 61) rfl rfl Try.func43 (by kernel_rfl) rfl #[.string a0, .int .i64 (wrap64 (a1 + 5))] rfl (by (try simp only [List.map_toArray, List.map_cons, List.map_nil]); first | done | rfl | (simp only [List.length_drop, List.length_take]; rfl)) ?_; (with_reducible refine (sealringref04_pair.calls kj15 a0 (wrap64 (a1 + 5)) t152 t153 _ A20.out).mono ?_); rintro e w' ⟨rfl, ⟨nd, rfl⟩⟩; refine ⟨_, rfl, ?_⟩))
                              go_ret3
                              exact ⟨by first | rfl | (simp; done) | (simp [*]; done), by repeat (first | exact Drawn0.refl _ | apply Drawn0.step)⟩
                  · rw [if_neg c15] at H
                    have c15b0 : (t151 == 0) = false := beq_eq_false_iff_ne.mpr c15
                    have c15b1 : (t151 != 0) = true := bne_iff_ne.mpr c15
                    simp only [Option.some.injEq, Prod.mk.injEq] at H
                    obtain ⟨rfl, rfl, rfl⟩ := H
                    go_wp2_with (first | ((with_reducible refine gate_callee (f := 42) rfl ?_); refine goesL_ (some 42) rfl rfl Try.func42 (by kernel_rfl) rfl #[.string a0, .int .i64 (wrap64 (a1 + 1))] rfl (by (try simp only [List.map_toArray, List.map_cons, List.map_nil]); first | done | rfl | (simp only [List.length_drop, List.length_take]; rfl)) ?_; (with_reducible refine (sealringref04_four.calls k1 a0 (wrap64 (a1 + 1)) t150 t151 _ A14.out).mono ?_); rintro e w' ⟨rfl, ⟨nd, rfl⟩⟩; refine ⟨_, rfl, ?_⟩))
                    go_ret3
                    exact ⟨by first | rfl | (simp; done) | (simp [*]; done), by repeat (first | exact Drawn0.refl _ | apply Drawn0.step)⟩
                · rw [if_neg c13] at H
                  have c13b0 : ((bt a0 a1) == 117) = false := beq_eq_false_iff_ne.mpr c13
                  have c13b1 : ((bt a0 a1) != 117) = true := bne_iff_ne.mpr c13
                  simp only [Option.some.injEq, Prod.mk.injEq] at H
                  obtain ⟨rfl, rfl, rfl⟩ := H
                  go_wp2
                  go_ret3
                  exact ⟨by first | rfl | (simp; done) | (simp [*]; done), by repeat (first | exact Drawn0.refl _ | apply Drawn0.step)⟩
      · rw [if_neg c5] at H
        exact absurd H (by simp)
    · rw [if_neg c4] at H
      exact absurd H (by simp)
end Go.Proofs.Ytjdgjifacdnkgaa.X
end
section
namespace Go.Proofs.Ytjdgjifacdnkgaa.X
open Go.RowKit Go.Proofs.YtjdgjifacdnkgaaW.PrintWords Go.Proofs.YtjdgjifacdnkgaaW.PrintLast Go.Proofs.YtjdgjifacdnkgaaW.PrintMore
attribute [local go_sem] max2_int min2_int max_two min_two max_three min_three max_four min_four
set_option linter.unusedVariables false
set_option linter.unusedSimpArgs false
mutual
def sealringref04_Unquote.j0 : Nat → ByteArray → Int → Bool → Option (ByteArray × Int × Int)
  | 0, _, _, _ => none
  | k + 1, x0, x1, x19 => if x19 = true then (some ((⟨#[]⟩ : ByteArray), 0, 1)) else (if x1 = (x0.size : Int) then (some ((⟨#[]⟩ : ByteArray), 0, 5)) else (if 0 ≤ x1 then (if x1 < (x0.size : Int) then (if (bt x0 x1) = 34 then (sealringref04_Unquote.l0 k x0 (⟨#[]⟩ : ByteArray) (wrap64 (x1 + 1))) else (some ((⟨#[]⟩ : ByteArray), 0, 6))) else (none)) else (none)))
def sealringref04_Unquote.l0 : Nat → ByteArray → ByteArray → Int → Option (ByteArray × Int × Int)
  | 0, _, _, _ => none
  | k + 1, x0, x7, x8 => if x8 < (x0.size : Int) then (if 0 ≤ x8 then (sealringref04_Unquote.j2 k x0 x7 x8 ((bt x0 x8) != 34)) else (none)) else (sealringref04_Unquote.j2 k x0 x7 x8 false)
def sealringref04_Unquote.j2 : Nat → ByteArray → ByteArray → Int → Bool → Option (ByteArray × Int × Int)
  | 0, _, _, _, _ => none
  | k + 1, x0, x7, x8, x39 => if x39 = true then (if 0 ≤ x8 then (if x8 < (x0.size : Int) then (if (bt x0 x8) < 32 then (some ((⟨#[]⟩ : ByteArray), 0, 6)) else ((sealringref03_Next.f k x0 x8).bind fun bt154 => (if (bt x0 x8) = 92 then ((sealringref04_escape.f k x0 (wrap64 (x8 + 1))).bind fun bt156 => (sealringref04_Unquote.j3 k x0 x7 x8 bt156.1 (wrap64 (bt156.2.1 + 1)) bt156.2.2)) else (sealringref04_Unquote.j3 k x0 x7 x8 bt154.1 bt154.2 0)))) else (none)) else (none)) else (if x8 ≥ (x0.size : Int) then (some ((⟨#[]⟩ : ByteArray), 0, 5)) else (some (x7, wrap64 (x8 + 1), 0)))
def sealringref04_Unquote.j3 : Nat → ByteArray → ByteArray → Int → Int → Int → Int → Option (ByteArray × Int × Int)
  | 0, _, _, _, _, _, _ => none
  | k + 1, x0, x7, x8, x9, x10, x11 => if x11 = 0 then (if x10 = 0 then (some ((⟨#[]⟩ : ByteArray), 0, 10)) else ((sealringref03_Form.f x9).bind fun t159 => (if x7.size + t159.size ≤ 9223372036854775807 then (sealringref04_Unquote.l0 k x0 (x7 ++ t159) (wrap64 (x8 + x10))) else (none)))) else (some ((⟨#[]⟩ : ByteArray), 0, x11))
end
def sealringref04_Unquote.f (k : Nat) (a0 : ByteArray) (a1 : Int) : Option (ByteArray × Int × Int) := if a1 < 0 then (sealringref04_Unquote.j0 k a0 a1 true) else (sealringref04_Unquote.j0 k a0 a1 (decide (a1 > (a0.size : Int))))
theorem sealringref04_Unquote.mono_l : ∀ k, (∀ y0 y1 y2, LeO (sealringref04_Unquote.j0 k y0 y1 y2) (sealringref04_Unquote.j0 (k + 1) y0 y1 y2)) ∧ (∀ y0 y1 y2, LeO (sealringref04_Unquote.l0 k y0 y1 y2) (sealringref04_Unquote.l0 (k + 1) y0 y1 y2)) ∧ (∀ y0 y1 y2 y3, LeO (sealringref04_Unquote.j2 k y0 y1 y2 y3) (sealringref04_Unquote.j2 (k + 1) y0 y1 y2 y3)) ∧ (∀ y0 y1 y2 y3 y4 y5, LeO (sealringref04_Unquote.j3 k y0 y1 y2 y3 y4 y5) (sealringref04_Unquote.j3 (k + 1) y0 y1 y2 y3 y4 y5))
  | 0 => ⟨fun _ _ _ r h => by simp [sealringref04_Unquote.j0] at h, fun _ _ _ r h => by simp [sealringref04_Unquote.l0] at h, fun _ _ _ _ r h => by simp [sealringref04_Unquote.j2] at h, fun _ _ _ _ _ _ r h => by simp [sealringref04_Unquote.j3] at h⟩
  | k + 1 => by
    obtain ⟨ih0, ih1, ih2, ih3⟩ := sealringref04_Unquote.mono_l k
    refine ⟨?_, ?_, ?_, ?_⟩
    · intro y0 y1 y2
      unfold sealringref04_Unquote.j0
      repeat' first
      | (with_reducible exact ih0 _ _ _)
      | (with_reducible exact ih1 _ _ _)
      | (with_reducible exact ih2 _ _ _ _)
      | (with_reducible exact ih3 _ _ _ _ _ _)
      | (with_reducible exact sealringref03_Next.mono _ _ _)
      | (with_reducible exact sealringref04_escape.mono _ _ _)
      | (with_reducible exact LeO.refl _)
      | (with_reducible exact LeO.none _)
      | (with_reducible refine LeO.ite ?_ ?_)
      | (with_reducible refine LeO.bind ?_ (fun _ => ?_))
      | exact ih0 _ _ _
      | exact ih1 _ _ _
      | exact ih2 _ _ _ _
      | exact ih3 _ _ _ _ _ _
      | exact sealringref03_Next.mono _ _ _
      | exact sealringref04_escape.mono _ _ _
      | exact LeO.none _
      | refine LeO.ite ?_ ?_
      | refine LeO.bind ?_ (fun _ => ?_)
    · intro y0 y1 y2
      unfold sealringref04_Unquote.l0
      repeat' first
      | (with_reducible exact ih0 _ _ _)
      | (with_reducible exact ih1 _ _ _)
      | (with_reducible exact ih2 _ _ _ _)
      | (with_reducible exact ih3 _ _ _ _ _ _)
      | (with_reducible exact sealringref03_Next.mono _ _ _)
      | (with_reducible exact sealringref04_escape.mono _ _ _)
      | (with_reducible exact LeO.refl _)
      | (with_reducible exact LeO.none _)
      | (with_reducible refine LeO.ite ?_ ?_)
      | (with_reducible refine LeO.bind ?_ (fun _ => ?_))
      | exact ih0 _ _ _
      | exact ih1 _ _ _
      | exact ih2 _ _ _ _
      | exact ih3 _ _ _ _ _ _
      | exact sealringref03_Next.mono _ _ _
      | exact sealringref04_escape.mono _ _ _
      | exact LeO.none _
      | refine LeO.ite ?_ ?_
      | refine LeO.bind ?_ (fun _ => ?_)
    · intro y0 y1 y2 y3
      unfold sealringref04_Unquote.j2
      repeat' first
      | (with_reducible exact ih0 _ _ _)
      | (with_reducible exact ih1 _ _ _)
      | (with_reducible exact ih2 _ _ _ _)
      | (with_reducible exact ih3 _ _ _ _ _ _)
      | (with_reducible exact sealringref03_Next.mono _ _ _)
      | (with_reducible exact sealringref04_escape.mono _ _ _)
      | (with_reducible exact LeO.refl _)
      | (with_reducible exact LeO.none _)
      | (with_reducible refine LeO.ite ?_ ?_)
      | (with_reducible refine LeO.bind ?_ (fun _ => ?_))
      | exact ih0 _ _ _
      | exact ih1 _ _ _
      | exact ih2 _ _ _ _
      | exact ih3 _ _ _ _ _ _
      | exact sealringref03_Next.mono _ _ _
      | exact sealringref04_escape.mono _ _ _
      | exact LeO.none _
      | refine LeO.ite ?_ ?_
      | refine LeO.bind ?_ (fun _ => ?_)
    · intro y0 y1 y2 y3 y4 y5
      unfold sealringref04_Unquote.j3
      repeat' first
      | (with_reducible exact ih0 _ _ _)
      | (with_reducible exact ih1 _ _ _)
      | (with_reducible exact ih2 _ _ _ _)
      | (with_reducible exact ih3 _ _ _ _ _ _)
      | (with_reducible exact sealringref03_Next.mono _ _ _)
      | (with_reducible exact sealringref04_escape.mono _ _ _)
      | (with_reducible exact LeO.refl _)
      | (with_reducible exact LeO.none _)
      | (with_reducible refine LeO.ite ?_ ?_)
      | (with_reducible refine LeO.bind ?_ (fun _ => ?_))
      | exact ih0 _ _ _
      | exact ih1 _ _ _
      | exact ih2 _ _ _ _
      | exact ih3 _ _ _ _ _ _
      | exact sealringref03_Next.mono _ _ _
      | exact sealringref04_escape.mono _ _ _
      | exact LeO.none _
      | refine LeO.ite ?_ ?_
      | refine LeO.bind ?_ (fun _ => ?_)
theorem sealringref04_Unquote.mono : ∀ a0 a1 k, LeO (sealringref04_Unquote.f k a0 a1) (sealringref04_Unquote.f (k + 1) a0 a1) := by
  intro a0 a1 k
  obtain ⟨ih0, ih1, ih2, ih3⟩ := sealringref04_Unquote.mono_l k
  unfold sealringref04_Unquote.f
  repeat' first
      | (with_reducible exact ih0 _ _ _)
      | (with_reducible exact ih1 _ _ _)
      | (with_reducible exact ih2 _ _ _ _)
      | (with_reducible exact ih3 _ _ _ _ _ _)
      | (with_reducible exact sealringref03_Next.mono _ _ _)
      | (with_reducible exact sealringref04_escape.mono _ _ _)
      | (with_reducible exact LeO.refl _)
      | (with_reducible exact LeO.none _)
      | (with_reducible refine LeO.ite ?_ ?_)
      | (with_reducible refine LeO.bind ?_ (fun _ => ?_))
      | exact ih0 _ _ _
      | exact ih1 _ _ _
      | exact ih2 _ _ _ _
      | exact ih3 _ _ _ _ _ _
      | exact sealringref03_Next.mono _ _ _
      | exact sealringref04_escape.mono _ _ _
      | exact LeO.none _
      | refine LeO.ite ?_ ?_
      | refine LeO.bind ?_ (fun _ => ?_)
set_option maxHeartbeats 8000000 in
set_option maxRecDepth 100000 in
theorem sealringref04_Unquote.calls (k : Nat) (a0 : ByteArray) (a1 : Int) (r1 : ByteArray) (r2 : Int) (r3 : Int) (w : World) (h : sealringref04_Unquote.f k a0 a1 = some (r1, r2, r3)) :
    Calls Try.prog 22 #[.string a0, .int .i64 a1] w fun e w' => e = .returned (.tuple #[.string r1, .int .i64 r2, .int .i64 r3]) ∧ Below w.heap.size w w' := by
  have HB := Aside0.mk (Below.refl w.heap.size w)
  have H : (if a1 < 0 then (sealringref04_Unquote.j0 k a0 a1 true) else (sealringref04_Unquote.j0 k a0 a1 (decide (a1 > (a0.size : Int))))) = some (r1, r2, r3) := h
  clear h
  have HC3 := Aside0.mk H
  clear H
  go_enter Try.func22, Try.ntmps22
  go_upto_region 1 with (fail)
  go_cut [19] (fun v19 wc => ∃ (kq : Nat) (x19_2 : Bool), v19 = .bool x19_2 ∧ Aside0 (sealringref04_Unquote.j0 kq a0 a1 x19_2 = some (r1, r2, r3)) ∧ Aside0 (kq ≤ k) ∧ Aside0 (Below w.heap.size w wc))
  case first =>
    have H := HC3.out
    clear HC3
    by_cases c4 : a1 < 0
    · rw [if_pos c4] at H
      have c4b0 : decide (a1 < 0) = true := decide_eq_true c4
      clear c4
      (first | rw [c4b0] | (simp only [i64_w, i32_w]; rw [c4b0]) | skip)
      have H' := Aside0.mk H
      clear H
      go_wp2
      go_meet
      case rel => exact ⟨_, (true), (by first | rfl | (simp; done) | (simp [*]; done) | (simp [wrap64]; done)), (by first | with_reducible exact H' | exact H' | (subst_vars; exact H')), ⟨by first | omega | exact Nat.le_refl _⟩, ⟨by repeat (first | (with_reducible first | exact HB.out | apply below_alloc | apply pw_below_drewN | apply below_drew1) | exact HB.out)⟩⟩
    · rw [if_neg c4] at H
      have c4b0 : decide (a1 < 0) = false := decide_eq_false c4
      clear c4
      (first | rw [c4b0] | (simp only [i64_w, i32_w]; rw [c4b0]) | skip)
      have H' := Aside0.mk H
      clear H
      go_wp2
      go_meet
      case rel => exact ⟨_, (decide (a1 > (a0.size : Int))), (by first | rfl | (simp; done) | (simp [*]; done) | (simp [wrap64]; done)), (by first | with_reducible exact H' | exact H' | (subst_vars; exact H')), ⟨by first | omega | exact Nat.le_refl _⟩, ⟨by repeat (first | (with_reducible first | exact HB.out | apply below_alloc | apply pw_below_drewN | apply below_drew1) | exact HB.out)⟩⟩
  case rest =>
    clear HC3
    try clear c2
    try clear p2
    try clear c4
    try clear c4b0
    obtain ⟨kq, x19_2, rfl, HA, HJ2, HB⟩ := hcut
    cases kq with
    | zero => exact absurd HA.out (by simp [sealringref04_Unquote.j0])
    | succ kj2 =>
      have H := HA.out
      clear HA
      simp only [sealringref04_Unquote.j0] at H
      by_cases c5 : x19_2 = true
      · subst c5
        have H1 : (some ((⟨#[]⟩ : ByteArray), 0, 1)) = some (r1, r2, r3) := by rw [if_pos rfl] at H; exact H
        clear H
        have H := H1
        clear H1
        simp only [Option.some.injEq, Prod.mk.injEq] at H
        obtain ⟨rfl, rfl, rfl⟩ := H
        go_wp2
        go_ret3
        exact ⟨by first | rfl | (simp [errW_none, errW_some] <;> rfl) | (simp [*, errW_none, errW_some] <;> rfl), by repeat (first | (with_reducible first | exact HB.out | apply below_alloc | apply pw_below_drewN | apply below_drew1) | exact HB.out)⟩
      · replace c5 := Bool.eq_false_iff.mpr c5
        subst c5
        have H1 : (if a1 = (a0.size : Int) then (some ((⟨#[]⟩ : ByteArray), 0, 5)) else (if 0 ≤ a1 then (if a1 < (a0.size : Int) then (if (bt a0 a1) = 34 then (sealringref04_Unquote.l0 kj2 a0 (⟨#[]⟩ : ByteArray) (wrap64 (a1 + 1))) else (some ((⟨#[]⟩ : ByteArray), 0, 6))) else (none)) else (none))) = some (r1, r2, r3) := by rw [if_neg (show ¬ (false = true) by decide)] at H; exact H
        clear H
        have H := H1
        clear H1
        by_cases c6 : a1 = (a0.size : Int)
        · rw [if_pos c6] at H
          have c6b0 : (a1 == (a0.size : Int)) = true := beq_iff_eq.mpr c6
          have c6b1 : (a1 != (a0.size : Int)) = false := bne_eq_false_iff_eq.mpr c6
          clear c6
          simp only [Option.some.injEq, Prod.mk.injEq] at H
          obtain ⟨rfl, rfl, rfl⟩ := H
          go_wp2
          go_ret3
          exact ⟨by first | rfl | (simp [errW_none, errW_some] <;> rfl) | (simp [*, errW_none, errW_some] <;> rfl), by repeat (first | (with_reducible first | exact HB.out | apply below_alloc | apply pw_below_drewN | apply below_drew1) | exact HB.out)⟩
        · rw [if_neg c6] at H
          have c6b0 : (a1 == (a0.size : Int)) = false := beq_eq_false_iff_ne.mpr c6
          have c6b1 : (a1 != (a0.size : Int)) = true := bne_iff_ne.mpr c6
          by_cases c7 : 0 ≤ a1
          · rw [if_pos c7] at H
            have c7b0 : decide (0 ≤ a1) = true := decide_eq_true c7
            clear c7
            by_cases c8 : a1 < (a0.size : Int)
            · rw [if_pos c8] at H
              have c8b0 : decide (a1 < (a0.size : Int)) = true := decide_eq_true c8
              clear c8
              by_cases c10 : (bt a0 a1) = 34
              · rw [if_pos c10] at H
                have c10b0 : ((bt a0 a1) == 34) = true := beq_iff_eq.mpr c10
                have c10b1 : ((bt a0 a1) != 34) = false := bne_eq_false_iff_eq.mpr c10
                clear c10
                have H' := Aside0.mk H
                clear H
                have p9 : 0 ≤ (a1 : Int) := of_decide_eq_true (by first | (with_reducible assumption) | assumption)
                have q9 : a1 < (a0.size : Int) := of_decide_eq_true (by first | (with_reducible assumption) | assumption)
                have hx9 := bt_at a0 a1
                replace p9 := eq_true p9
                replace q9 := eq_true q9
                go_wp2
                (try simp only [Go.IntKind.wrap_u8])
                go_loopg [7, 8] kj2 (fun kq v7 v8 w' => ∃ (x7_2 : ByteArray) (x8_2 : Int), v7 = .string x7_2 ∧ v8 = .int .i64 x8_2 ∧ Aside0 (sealringref04_Unquote.l0 kq a0 x7_2 x8_2 = some (r1, r2, r3)) ∧ Aside0 (kq ≤ kj2) ∧ Aside0 (Below w.heap.size w w'))
                case atStart => exact ⟨((⟨#[]⟩ : ByteArray)), (wrap64 (a1 + 1)), (by first | rfl | (simp; done) | (simp [*]; done) | (simp [wrap64]; done)), (by first | rfl | (simp; done) | (simp [*]; done) | (simp [wrap64]; done)), (by first | with_reducible exact H' | exact H' | (subst_vars; exact H')), ⟨Nat.le_refl _⟩, ⟨by repeat (first | (with_reducible first | exact HB.out | apply below_alloc | apply pw_below_drewN | apply below_drew1) | exact HB.out)⟩⟩
                case round =>
                  clear H'
                  try clear c1
                  try clear c2
                  try clear p2
                  try clear c4
                  try clear c4b0
                  try clear c5
                  try clear c6
                  try clear c6b0
                  try clear c6b1
                  try clear p6
                  try clear c7
                  try clear c7b0
                  try clear c8
                  try clear c8b0
                  try clear p9
                  try clear q9
                  try clear hx9
                  try clear c10
                  try clear c10b0
                  try clear c10b1
                  try clear p2
                  try clear p9
                  try clear q9
                  obtain ⟨x7_2, x8_2, rfl, rfl, HA, HK2, HB⟩ := hrel
                  cases gk with
                  | zero => exact absurd HA.out (by simp [sealringref04_Unquote.l0])
                  | succ k2 =>
                    have H := HA.out
                    clear HA
                    simp only [sealringref04_Unquote.l0] at H
                    have HC11 := Aside0.mk H
                    clear H
                    go_upto_region 9 with (fail)
                    go_cut [39] (fun v39 wc => ∃ (kq : Nat) (x39_10 : Bool), v39 = .bool x39_10 ∧ Aside0 (sealringref04_Unquote.j2 kq a0 x7_2 x8_2 x39_10 = some (r1, r2, r3)) ∧ Aside0 (kq ≤ k2) ∧ Aside0 (Below w.heap.size w wc))
                    case first =>
                      have H := HC11.out
                      clear HC11
                      by_cases c12 : x8_2 < (a0.size : Int)
                      · rw [if_pos c12] at H
                        have c12b0 : decide (x8_2 < (a0.size : Int)) = true := decide_eq_true c12
                        clear c12
                        (first | rw [c12b0] | (simp only [i64_w, i32_w]; rw [c12b0]) | skip)
                        by_cases c13 : 0 ≤ x8_2
                        · rw [if_pos c13] at H
                          have c13b0 : decide (0 ≤ x8_2) = true := decide_eq_true c13
                          clear c13
                          have H' := Aside0.mk H
                          clear H
                          have p14 : 0 ≤ (x8_2 : Int) := of_decide_eq_true (by first | (with_reducible assumption) | assumption)
                          have q14 : x8_2 < (a0.size : Int) := of_decide_eq_true (by first | (with_reducible assumption) | assumption)
                          have hx14 := bt_at a0 x8_2
                          replace p14 := eq_true p14
                          replace q14 := eq_true q14
                          go_wp2
                          go_meet
                          case rel => exact ⟨_, (((bt a0 x8_2) != 34)), (by first | rfl | (simp; done) | (simp [*]; done) | (simp [wrap64]; done)), (by first | with_reducible exact H' | exact H' | (subst_vars; exact H')), ⟨by have := HJ2.out; have := HK2.out; first | omega | exact Nat.le_refl _⟩, ⟨by repeat (first | (with_reducible first | exact HB.out | apply below_alloc | apply pw_below_drewN | apply below_drew1) | exact HB.out)⟩⟩
                        · rw [if_neg c13] at H
                          exact absurd H (by simp)
                      · rw [if_neg c12] at H
                        have c12b0 : decide (x8_2 < (a0.size : Int)) = false := decide_eq_false c12
                        clear c12
                        (first | rw [c12b0] | (simp only [i64_w, i32_w]; rw [c12b0]) | skip)
                        have H' := Aside0.mk H
                        clear H
                        go_wp2
                        go_meet
                        case rel => exact ⟨_, (false), (by first | rfl | (simp; done) | (simp [*]; done) | (simp [wrap64]; done)), (by first | with_reducible exact H' | exact H' | (subst_vars; exact H')), ⟨by have := HJ2.out; have := HK2.out; first | omega | exact Nat.le_refl _⟩, ⟨by repeat (first | (with_reducible first | exact HB.out | apply below_alloc | apply pw_below_drewN | apply below_drew1) | exact HB.out)⟩⟩
                    case rest =>
                      clear HC11
                      try clear c1
                      try clear p1
                      try clear q1
                      try clear hx1
                      try clear c2
                      try clear p2
                      try clear c4
                      try clear c4b0
                      try clear c5
                      try clear c6
                      try clear c6b0
                      try clear c6b1
                      try clear p6
                      try clear c7
                      try clear c7b0
                      try clear c8
                      try clear c8b0
                      try clear p9
                      try clear q9
                      try clear hx9
                      try clear c10
                      try clear c10b0
                      try clear c10b1
                      try clear c12
                      try clear c12b0
                      try clear c13
                      try clear c13b0
                      try clear p14
                      try clear q14
                      try clear hx14
                      try clear p14
                      try clear p2
                      try clear p6
                      try clear p9
                      try clear q14
                      try clear q9
                      obtain ⟨kq, x39_10, rfl, HA, HJ10, HB⟩ := hcut
                      cases kq with
                      | zero => exact absurd HA.out (by simp [sealringref04_Unquote.j2])
                      | succ kj10 =>
                        have H := HA.out
                        clear HA
                        simp only [sealringref04_Unquote.j2] at H
                        by_cases c15 : x39_10 = true
                        · subst c15
                          have H1 : (if 0 ≤ x8_2 then (if x8_2 < (a0.size : Int) then (if (bt a0 x8_2) < 32 then (some ((⟨#[]⟩ : ByteArray), 0, 6)) else ((sealringref03_Next.f kj10 a0 x8_2).bind fun bt154 => (if (bt a0 x8_2) = 92 then ((sealringref04_escape.f kj10 a0 (wrap64 (x8_2 + 1))).bind fun bt156 => (sealringref04_Unquote.j3 kj10 a0 x7_2 x8_2 bt156.1 (wrap64 (bt156.2.1 + 1)) bt156.2.2)) else (sealringref04_Unquote.j3 kj10 a0 x7_2 x8_2 bt154.1 bt154.2 0)))) else (none)) else (none)) = some (r1, r2, r3) := by rw [if_pos rfl] at H; exact H
                          clear H
                          have H := H1
                          clear H1
                          by_cases c16 : 0 ≤ x8_2
                          · rw [if_pos c16] at H
                            have c16b0 : decide (0 ≤ x8_2) = true := decide_eq_true c16
                            clear c16
                            by_cases c17 : x8_2 < (a0.size : Int)
                            · rw [if_pos c17] at H
                              have c17b0 : decide (x8_2 < (a0.size : Int)) = true := decide_eq_true c17
                              clear c17
                              by_cases c19 : (bt a0 x8_2) < 32
                              · rw [if_pos c19] at H
                                have c19b0 : decide ((bt a0 x8_2) < 32) = true := decide_eq_true c19
                                clear c19
                                simp only [Option.some.injEq, Prod.mk.injEq] at H
                                obtain ⟨rfl, rfl, rfl⟩ := H
                                have p18 : 0 ≤ (x8_2 : Int) := of_decide_eq_true (by first | (with_reducible assumption) | assumption)
                                have q18 : x8_2 < (a0.size : Int) := of_decide_eq_true (by first | (with_reducible assumption) | assumption)
                                have hx18 := bt_at a0 x8_2
                                replace p18 := eq_true p18
                                replace q18 := eq_true q18
                                go_wp2
                                go_ret3
                                exact ⟨by first | rfl | (simp [errW_none, errW_some] <;> rfl) | (simp [*, errW_none, errW_some] <;> rfl), by repeat (first | (with_reducible first | exact HB.out | apply below_alloc | apply pw_below_drewN | apply below_drew1) | exact HB.out)⟩
                              · rw [if_neg c19] at H
                                have c19b0 : decide ((bt a0 x8_2) < 32) = false := decide_eq_false c19
                                clear c19
                                replace H := Option.bind_eq_some_iff.mp H
                                obtain ⟨⟨t154, t155⟩, A200, H⟩ := H
                                replace H : (if (bt a0 x8_2) = 92 then ((sealringref04_escape.f kj10 a0 (wrap64 (x8_2 + 1))).bind fun bt156 => (sealringref04_Unquote.j3 kj10 a0 x7_2 x8_2 bt156.1 (wrap64 (bt156.2.1 + 1)) bt156.2.2)) else (sealringref04_Unquote.j3 kj10 a0 x7_2 x8_2 t154 t155 0)) = some (r1, r2, r3) := H
                                have A20 := Aside0.mk A200
                                clear A200
                                have HC22 := Aside0.mk H
                                clear H
                                have p18 : 0 ≤ (x8_2 : Int) := of_decide_eq_true (by first | (with_reducible assumption) | assumption)
                                have q18 : x8_2 < (a0.size : Int) := of_decide_eq_true (by first | (with_reducible assumption) | assumption)
                                have hx18 := bt_at a0 x8_2
                                replace p18 := eq_true p18
                                replace q18 := eq_true q18
                                go_upto_if 53 with (first | ((with_reducible refine gate_callee (f := 29) rfl ?_); refine goesL_ (some 47) rfl rfl Try.func29 (by kernel_rfl) rfl #[.string a0, .int .i64 x8_2] rfl (by (try simp only [List.map_toArray, List.map_cons, List.map_nil]); first | done | rfl | (simp only [List.length_drop, List.length_take]; rfl)) ?_; (with_reducible refine (sealringref03_Next.calls kj10 a0 x8_2 t154 t155 _ A20.out).mono ?_); rintro e w23 ⟨rfl, hb⟩; refine ⟨_, rfl, ?_⟩; have n0_ := Aside0.mk (below_step (by repeat (first | (with_reducible first | exact HB.out | apply below_alloc | apply pw_below_drewN | apply below_drew1) | exact HB.out)) hb); clear HB; have HB := n0_; clear n0_; (try clear hb); (try clear hb2); (try clear hk); (try clear hi); have p21 : 0 ≤ (x8_2 : Int) := of_decide_eq_true (by first | (with_reducible assumption) | assumption); have q21 : x8_2 < (a0.size : Int) := of_decide_eq_true (by first | (with_reducible assumption) | assumption); have hx21 := bt_at a0 x8_2; replace p21 := eq_true p21; replace q21 := eq_true q21))
                                (try simp only [Act.put, List.setIfInBounds_toArray, List.set_cons_zero, List.set_cons_succ])
                                go_cut [9, 10, 11] (fun v9 v10 v11 wc => ∃ (kq : Nat) (x9_21 : Int) (x10_21 : Int) (x11_21 : Int), v9 = .int .i64 x9_21 ∧ v10 = .int .i64 x10_21 ∧ v11 = .int .i64 x11_21 ∧ Aside0 (sealringref04_Unquote.j3 kq a0 x7_2 x8_2 x9_21 x10_21 x11_21 = some (r1, r2, r3)) ∧ Aside0 (kq ≤ kj10) ∧ Aside0 (Below w.heap.size w wc))
                                case first =>
                                  have H := HC22.out
                                  clear HC22
                                  by_cases c24 : (bt a0 x8_2) = 92
                                  · rw [if_pos c24] at H
                                    have c24b0 : ((bt a0 x8_2) == 92) = true := beq_iff_eq.mpr c24
                                    have c24b1 : ((bt a0 x8_2) != 92) = false := bne_eq_false_iff_eq.mpr c24
                                    clear c24
                                    (first | rw [c24b0] | (simp only [i64_w, i32_w]; rw [c24b0]) | skip)
                                    replace H := Option.bind_eq_some_iff.mp H
                                    obtain ⟨⟨t156, t157, t158⟩, A250, H⟩ := H
                                    replace H : (sealringref04_Unquote.j3 kj10 a0 x7_2 x8_2 t156 (wrap64 (t157 + 1)) t158) = some (r1, r2, r3) := H
                                    have A25 := Aside0.mk A250
                                    clear A250
                                    have H' := Aside0.mk H
                                    clear H
                                    go_wp2_with (first | ((with_reducible refine gate_callee (f := 30) rfl ?_); refine goesL_ (some 58) rfl rfl Try.func30 (by kernel_rfl) rfl #[.string a0, .int .i64 (wrap64 (x8_2 + 1))] rfl (by (try simp only [List.map_toArray, List.map_cons, List.map_nil]); first | done | rfl | (simp only [List.length_drop, List.length_take]; rfl)) ?_; (with_reducible refine (sealringref04_escape.calls kj10 a0 (wrap64 (x8_2 + 1)) t156 t157 t158 _ A25.out).mono ?_); rintro e w' ⟨rfl, ⟨nd, rfl⟩⟩; refine ⟨_, rfl, ?_⟩))
                                    go_meet
                                    case rel => exact ⟨_, (t156), (wrap64 (t157 + 1)), (t158), (by first | rfl | (simp; done) | (simp [*]; done) | (simp [wrap64]; done)), (by first | rfl | (simp; done) | (simp [*]; done) | (simp [wrap64]; done)), (by first | rfl | (simp; done) | (simp [*]; done) | (simp [wrap64]; done)), (by first | with_reducible exact H' | exact H' | (subst_vars; exact H')), ⟨by have := HJ2.out; have := HK2.out; have := HJ10.out; first | omega | exact Nat.le_refl _⟩, ⟨by repeat (first | (with_reducible first | exact HB.out | apply below_alloc | apply pw_below_drewN | apply below_drew1) | exact HB.out)⟩⟩
                                  · rw [if_neg c24] at H
                                    have c24b0 : ((bt a0 x8_2) == 92) = false := beq_eq_false_iff_ne.mpr c24
                                    have c24b1 : ((bt a0 x8_2) != 92) = true := bne_iff_ne.mpr c24
                                    (first | rw [c24b0] | (simp only [i64_w, i32_w]; rw [c24b0]) | skip)
                                    have H' := Aside0.mk H
                                    clear H
                                    go_wp2
                                    go_meet
                                    case rel => exact ⟨_, (t154), (t155), (0), (by first | rfl | (simp; done) | (simp [*]; done) | (simp [wrap64]; done)), (by first | rfl | (simp; done) | (simp [*]; done) | (simp [wrap64]; done)), (by first | rfl | (simp; done) | (simp [*]; done) | (simp [wrap64]; done)), (by first | with_reducible exact H' | exact H' | (subst_vars; exact H')), ⟨by have := HJ2.out; have := HK2.out; have := HJ10.out; first | omega | exact Nat.le_refl _⟩, ⟨by repeat (first | (with_reducible first | exact HB.out | apply below_alloc | apply pw_below_drewN | apply below_drew1) | exact HB.out)⟩⟩
                                case rest =>
                                  clear HC22
                                  try clear c1
                                  try clear p1
                                  try clear q1
                                  try clear hx1
                                  try clear c2
                                  try clear p2
                                  try clear q2
                                  try clear hx2
                                  try clear c3
                                  try clear c4
                                  try clear c4b0
                                  try clear c5
                                  try clear c6
                                  try clear c6b0
                                  try clear c6b1
                                  try clear p6
                                  try clear c7
                                  try clear c7b0
                                  try clear c8
                                  try clear c8b0
                                  try clear p9
                                  try clear q9
                                  try clear hx9
                                  try clear c10
                                  try clear c10b0
                                  try clear c10b1
                                  try clear c12
                                  try clear c12b0
                                  try clear c13
                                  try clear c13b0
                                  try clear p14
                                  try clear q14
                                  try clear hx14
                                  try clear c15
                                  try clear c16
                                  try clear c16b0
                                  try clear c17
                                  try clear c17b0
                                  try clear p18
                                  try clear q18
                                  try clear hx18
                                  try clear c19
                                  try clear c19b0
                                  try clear p21
                                  try clear q21
                                  try clear hx21
                                  try clear c22
                                  try clear c24
                                  try clear c24b0
                                  try clear c24b1
                                  try clear p1
                                  try clear p14
                                  try clear p18
                                  try clear p2
                                  try clear p21
                                  try clear p6
                                  try clear p9
                                  try clear q1
                                  try clear q14
                                  try clear q18
                                  try clear q21
                                  try clear q9
                                  obtain ⟨kq, x9_21, x10_21, x11_21, rfl, rfl, rfl, HA, HJ21, HB⟩ := hcut
                                  cases kq with
                                  | zero => exact absurd HA.out (by simp [sealringref04_Unquote.j3])
                                  | succ kj21 =>
                                    have H := HA.out
                                    clear HA
                                    simp only [sealringref04_Unquote.j3] at H
                                    by_cases c26 : x11_21 = 0
                                    · rw [if_pos c26] at H
                                      have c26b0 : (x11_21 == 0) = true := beq_iff_eq.mpr c26
                                      have c26b1 : (x11_21 != 0) = false := bne_eq_false_iff_eq.mpr c26
                                      clear c26
                                      by_cases c27 : x10_21 = 0
                                      · rw [if_pos c27] at H
                                        have c27b0 : (x10_21 == 0) = true := beq_iff_eq.mpr c27
                                        have c27b1 : (x10_21 != 0) = false := bne_eq_false_iff_eq.mpr c27
                                        clear c27
                                        simp only [Option.some.injEq, Prod.mk.injEq] at H
                                        obtain ⟨rfl, rfl, rfl⟩ := H
                                        go_wp2
                                        go_ret3
                                        exact ⟨by first | rfl | (simp [errW_none, errW_some] <;> rfl) | (simp [*, errW_none, errW_some] <;> rfl), by repeat (first | (with_reducible first | exact HB.out | apply below_alloc | apply pw_below_drewN | apply below_drew1) | exact HB.out)⟩
                                      · rw [if_neg c27] at H
                                        have c27b0 : (x10_21 == 0) = false := beq_eq_false_iff_ne.mpr c27
                                        have c27b1 : (x10_21 != 0) = true := bne_iff_ne.mpr c27
                                        replace H := Option.bind_eq_some_iff.mp H
                                        obtain ⟨t159, A280, H⟩ := H
                                        replace H : (if x7_2.size + t159.size ≤ 9223372036854775807 then (sealringref04_Unquote.l0 kj21 a0 (x7_2 ++ t159) (wrap64 (x8_2 + x10_21))) else (none)) = some (r1, r2, r3) := H
                                        have A28 := Aside0.mk A280
                                        clear A280
                                        by_cases c29 : x7_2.size + t159.size ≤ 9223372036854775807
                                        · rw [if_pos c29] at H
                                          have c29b0 := eq_true c29
                                          have c29b1 : decide (x7_2.size + t159.size ≤ 9223372036854775807) = true := decide_eq_true c29
                                          try have c29b2 : (9223372036854775807 < x7_2.size + t159.size) = False := eq_false (Nat.not_lt.2 c29)
                                          have H' := Aside0.mk H
                                          clear H
                                          go_wp2_with (first | ((with_reducible refine gate_callee (f := 31) rfl ?_); refine goesL_ (some 71) rfl rfl Try.func31 (by kernel_rfl) rfl #[.int .i64 x9_21] rfl (by (try simp only [List.map_toArray, List.map_cons, List.map_nil]); first | done | rfl | (simp only [List.length_drop, List.length_take]; rfl)) ?_; (with_reducible refine (sealringref03_Form.calls x9_21 t159 _ A28.out).mono ?_); rintro e w30 ⟨rfl, hb⟩; refine ⟨_, rfl, ?_⟩; have n0_ := Aside0.mk (below_step (by repeat (first | (with_reducible first | exact HB.out | apply below_alloc | apply pw_below_drewN | apply below_drew1) | exact HB.out)) hb); clear HB; have HB := n0_; clear n0_; (try clear hb); (try clear hb2); (try clear hk); (try clear hi)))
                                          go_roundg kj21
                                          case measure => have := HJ2.out; have := HK2.out; have := HJ10.out; have := HJ21.out; omega
                                          case rel => exact ⟨(x7_2 ++ t159), (wrap64 (x8_2 + x10_21)), (by first | rfl | (simp; done) | (simp [*]; done) | (simp [wrap64]; done)), (by first | rfl | (simp; done) | (simp [*]; done) | (simp [wrap64]; done)), (by first | with_reducible exact H' | exact H' | (subst_vars; exact H')), ⟨by have := HJ2.out; have := HK2.out; have := HJ10.out; have := HJ21.out; omega⟩, ⟨by repeat (first | (with_reducible first | exact HB.out | apply below_alloc | apply pw_below_drewN | apply below_drew1) | exact HB.out)⟩⟩
                                        · rw [if_neg c29] at H
                                          exact absurd H (by simp)
                                    · rw [if_neg c26] at H
                                      have c26b0 : (x11_21 == 0) = false := beq_eq_false_iff_ne.mpr c26
                                      have c26b1 : (x11_21 != 0) = true := bne_iff_ne.mpr c26
                                      simp only [Option.some.injEq, Prod.mk.injEq] at H
                                      obtain ⟨rfl, rfl, rfl⟩ := H
                                      go_wp2
                                      go_ret3
                                      exact ⟨by first | rfl | (simp [errW_none, errW_some] <;> rfl) | (simp [*, errW_none, errW_some] <;> rfl), by repeat (first | (with_reducible first | exact HB.out | apply below_alloc | apply pw_below_drewN | apply below_drew1) | exact HB.out)⟩
                            · rw [if_neg c17] at H
                              exact absurd H (by simp)
                          · rw [if_neg c16] at H
                            exact absurd H (by simp)
                        · replace c15 := Bool.eq_false_iff.mpr c15
                          subst c15
                          have H1 : (if x8_2 ≥ (a0.size : Int) then (some ((⟨#[]⟩ : ByteArray), 0, 5)) else (some (x7_2, wrap64 (x8_2 + 1), 0))) = some (r1, r2, r3) := by rw [if_neg (show ¬ (false = true) by decide)] at H; exact H
                          clear H
                          have H := H1
                          clear H1
                          by_cases c31 : x8_2 ≥ (a0.size : Int)
                          · rw [if_pos c31] at H
                            have c31b0 : decide ((a0.size : Int) ≤ x8_2) = true := decide_eq_true c31
                            clear c31
                            simp only [Option.some.injEq, Prod.mk.injEq] at H
                            obtain ⟨rfl, rfl, rfl⟩ := H
                            go_wp2
                            go_ret3
                            exact ⟨by first | rfl | (simp [errW_none, errW_some] <;> rfl) | (simp [*, errW_none, errW_some] <;> rfl), by repeat (first | (with_reducible first | exact HB.out | apply below_alloc | apply pw_below_drewN | apply below_drew1) | exact HB.out)⟩
                          · rw [if_neg c31] at H
                            have c31b0 : decide ((a0.size : Int) ≤ x8_2) = false := decide_eq_false c31
                            clear c31
                            simp only [Option.some.injEq, Prod.mk.injEq] at H
                            obtain ⟨rfl, rfl, rfl⟩ := H
                            go_wp2
                            go_ret3
                            exact ⟨by first | rfl | (simp [errW_none, errW_some] <;> rfl) | (simp [*, errW_none, errW_some] <;> rfl), by repeat (first | (with_reducible first | exact HB.out | apply below_alloc | apply pw_below_drewN | apply below_drew1) | exact HB.out)⟩
              · rw [if_neg c10] at H
                have c10b0 : ((bt a0 a1) == 34) = false := beq_eq_false_iff_ne.mpr c10
                have c10b1 : ((bt a0 a1) != 34) = true := bne_iff_ne.mpr c10
                simp only [Option.some.injEq, Prod.mk.injEq] at H
                obtain ⟨rfl, rfl, rfl⟩ := H
                have p9 : 0 ≤ (a1 : Int) := of_decide_eq_true (by first | (with_reducible assumption) | assumption)
                have q9 : a1 < (a0.size : Int) := of_decide_eq_true (by first | (with_reducible assumption) | assumption)
                have hx9 := bt_at a0 a1
                replace p9 := eq_true p9
                replace q9 := eq_true q9
                go_wp2
                go_ret3
                exact ⟨by first | rfl | (simp [errW_none, errW_some] <;> rfl) | (simp [*, errW_none, errW_some] <;> rfl), by repeat (first | (with_reducible first | exact HB.out | apply below_alloc | apply pw_below_drewN | apply below_drew1) | exact HB.out)⟩
            · rw [if_neg c8] at H
              exact absurd H (by simp)
          · rw [if_neg c7] at H
            exact absurd H (by simp)
end Go.Proofs.Ytjdgjifacdnkgaa.X
end
section
namespace Go.Proofs.Ytjdgjifacdnkgaa.X
open Go.RowKit Go.Proofs.YtjdgjifacdnkgaaW.PrintWords Go.Proofs.YtjdgjifacdnkgaaW.PrintLast Go.Proofs.YtjdgjifacdnkgaaW.PrintMore
set_option linter.unusedVariables false
set_option linter.unusedSimpArgs false
def smallP (n : Int) : Int := if n = 34 ∨ n = 92 then n else if n = 8 then 98 else if n = 9 then 116 else if n = 10 then 110 else if n = 12 then 102 else if n = 13 then 114 else 0
theorem small_ev (n : Int) : Ev (fun k => sealringref04_small.f k n) (smallP n) := by
  unfold sealringref04_small.f
  by_cases c1 : n = 34
  · refine evPos c1 (Ev.step (f := fun _ => some 34) (fun k => ?_) ?_)
    · rw [sealringref04_small.j0, if_pos rfl, c1]; rfl
    · subst c1; exact Ev.now _
  · refine evNeg c1 ?_
    by_cases c2 : n = 92
    · refine Ev.step (f := fun _ => some 92) (fun k => ?_) ?_
      · rw [sealringref04_small.j0, if_pos (by simp [c2]), c2]; rfl
      · subst c2; exact Ev.now _
    · refine Ev.step (f := fun _ => some (smallP n)) (fun k => ?_) (Ev.now _)
      rw [sealringref04_small.j0, if_neg (by simp [c2])]
      unfold smallP
      rw [if_neg (show ¬ (n = 34 ∨ n = 92) by omega)]
      repeat' split
      all_goals rfl
def digN (c : Int) : Int := (hexD c).getD (-1)
theorem digit_ev (c : Int) (h0 : 0 ≤ c) (h1 : c ≤ 255) : Ev (fun k => sealringref04_digit.f k c) (digN c) := by
  unfold sealringref04_digit.f digN hexD
  have j1 : ∀ b : Bool, (b = true ↔ (97 ≤ c ∧ c ≤ 102)) → ¬ (48 ≤ c ∧ c ≤ 57) → Ev (fun k => sealringref04_digit.j1 k c b) ((if 48 ≤ c ∧ c ≤ 57 then some (c - 48) else if 97 ≤ c ∧ c ≤ 102 then some (c - 97 + 10) else if 65 ≤ c ∧ c ≤ 70 then some (c - 65 + 10) else none).getD (-1)) := by
    intro b hb hn
    rw [if_neg hn]
    by_cases d : 97 ≤ c ∧ c ≤ 102
    · rw [if_pos d]
      refine Ev.step (f := fun _ => some (c - 97 + 10)) (fun k => ?_) (Ev.now _)
      rw [sealringref04_digit.j1, if_pos (hb.2 d)]
      congr 1; omega
    · rw [if_neg d]
      refine Ev.step (f := fun _ => some ((if 65 ≤ c ∧ c ≤ 70 then some (c - 65 + 10) else none).getD (-1))) (fun k => ?_) (Ev.now _)
      rw [sealringref04_digit.j1, if_neg (fun h => d (hb.1 h))]
      by_cases e1 : c ≥ 65
      · rw [if_pos e1]
        by_cases e2 : c ≤ 70
        · rw [if_pos e2, if_pos ⟨e1, e2⟩]; show _ = some (c - 65 + 10); congr 1; omega
        · rw [if_neg e2, if_neg (fun h => e2 h.2)]; rfl
      · rw [if_neg e1, if_neg (fun h => e1 h.1)]; rfl
  have j0 : ∀ b : Bool, (b = true ↔ (48 ≤ c ∧ c ≤ 57)) → Ev (fun k => sealringref04_digit.j0 k c b) ((if 48 ≤ c ∧ c ≤ 57 then some (c - 48) else if 97 ≤ c ∧ c ≤ 102 then some (c - 97 + 10) else if 65 ≤ c ∧ c ≤ 70 then some (c - 65 + 10) else none).getD (-1)) := by
    intro b hb
    by_cases d : 48 ≤ c ∧ c ≤ 57
    · refine Ev.step (f := fun _ => some (c - 48)) (fun k => ?_) ?_
      · rw [sealringref04_digit.j0, if_pos (hb.2 d)]; congr 1; omega
      · rw [if_pos d]; exact Ev.now _
    · by_cases e : c ≥ 97
      · refine Ev.step (fun k => ?_) (j1 (decide (c ≤ 102)) (by rw [decide_eq_true_iff]; omega) d)
        rw [sealringref04_digit.j0, if_neg (fun h => d (hb.1 h)), if_pos e]
      · refine Ev.step (fun k => ?_) (j1 false (by simp; omega) d)
        rw [sealringref04_digit.j0, if_neg (fun h => d (hb.1 h)), if_neg e]
  by_cases c1 : c ≥ 48
  · exact evPos c1 (j0 _ (by rw [decide_eq_true_iff]; omega))
  · exact evNeg c1 (j0 _ (by simp; omega))
def exN : Except Int (Int × Int) → Int × Int | .ok (n, _) => (n, 0) | .error e => (0, e)
theorem four_err {t : ByteArray} : ∀ (k : Nat) (n a : Int) {e : Int}, fourP t k n a = .error e → e = 11 ∨ e = 5
  | 0, _, _, _, h => by cases h
  | k + 1, n, a, e, h => by
    simp only [fourP] at h
    split at h
    · split at h
      · cases h; exact .inl rfl
      · exact four_err k _ _ h
    · cases h; exact .inr rfl
section
variable (t : ByteArray)
theorem four_go (a : Nat) (hA : a ≤ 140737488351300) : ∀ (k j : Nat) (n : Int), k + j = 4 → 0 ≤ n → n < 16 ^ j → Ev (fun q => sealringref04_four.l0 q t (a : Int) n (j : Int)) (exN (fourP t k n ((a : Int) + (j : Int)))) := by
  intro k
  induction k with
  | zero =>
    intro j n hj h0 h1
    refine Ev.step (f := fun _ => some (n, 0)) (fun q => ?_) (Ev.now _)
    rw [sealringref04_four.l0, if_neg (by omega)]
  | succ k ih =>
    intro j n hj h0 h1
    have hn := pow16 (show j < 4 by omega) h1
    simp only [fourP]
    have hw : wrap64 ((a : Int) + (j : Int)) = (a : Int) + (j : Int) := w64 (by omega) (by omega)
    by_cases c2 : (a : Int) + (j : Int) < (t.size : Int)
    · rw [if_pos c2]
      have bb := bt_range t ((a : Int) + (j : Int))
      refine Ev.step (f := fun q => (sealringref04_digit.f q (bt t ((a : Int) + (j : Int)))).bind fun t221 => (if t221 < 0 then (some (0, 11)) else (sealringref04_four.l0 q t (a : Int) (wrap64 ((wrap64 (16 * n)) + t221)) (wrap64 ((j : Int) + 1))))) (fun q => ?_) ?_
      · rw [sealringref04_four.l0, if_pos (by omega), hw, if_neg (by omega), if_pos (by omega), if_pos c2]
      · refine Ev.bind (digit_ev _ bb.1 bb.2) ?_
        unfold digN
        cases hd : hexD (bt t ((a : Int) + (j : Int))) with
        | none => exact evPos (by decide) (Ev.now _)
        | some d =>
          have hr := hexD_range hd
          refine evNeg (by show ¬ d < 0; omega) ?_
          show Ev (fun q => sealringref04_four.l0 q t (a : Int) (wrap64 ((wrap64 (16 * n)) + d)) (wrap64 ((j : Int) + 1))) _
          rw [w64 (x := 16 * n) (by omega) (by omega), w64 (x := 16 * n + d) (by omega) (by omega), w64s j (by omega)]
          have h2 := ih (j + 1) (16 * n + d) (by omega) (by omega) (by rw [Int.pow_succ]; omega)
          rw [show (a : Int) + ((j + 1 : Nat) : Int) = (a : Int) + (j : Int) + 1 by omega] at h2
          exact h2
    · rw [if_neg c2]
      refine Ev.step (f := fun _ => some (0, 5)) (fun q => ?_) (Ev.now _)
      rw [sealringref04_four.l0, if_pos (by omega), hw, if_pos (by omega)]
theorem four_ev (a : Nat) (hA : a ≤ 140737488351300) : Ev (fun q => sealringref04_four.f q t (a : Int)) (exN (fourP t 4 0 (a : Int))) := by
  have h := four_go t a hA 4 0 0 (by omega) (by omega) (by simp)
  simp only [Int.natCast_zero, Int.add_zero] at h
  exact h
def pairM (t : ByteArray) (a : Int) : Except Int (Int × Int) :=
  if a < (t.size : Int) then (if bt t a = 92 then (if a + 1 < (t.size : Int) then (if bt t (a + 1) = 117 then (match fourP t 4 0 (a + 2) with | .error e => .error e | .ok (m, b) => if m < 56320 then .error 11 else if m > 57343 then .error 11 else .ok (m, b)) else .error 11) else .error 5) else .error 11) else .error 5
theorem pairP_M (n a : Int) : pairP t n a = match pairM t a with | .error e => .error e | .ok (m, b) => .ok (65536 + (n - 55296) * 1024 + (m - 56320), b) := by
  unfold pairP pairM mustP
  by_cases c1 : a < (t.size : Int)
  · rw [if_pos c1, if_pos c1]
    by_cases c2 : bt t a = 92
    · rw [if_pos c2, if_pos c2]
      simp only
      by_cases c3 : a + 1 < (t.size : Int)
      · rw [if_pos c3, if_pos c3]
        by_cases c4 : bt t (a + 1) = 117
        · rw [if_pos c4, if_pos c4]
          simp only
          rw [show a + 1 + 1 = a + 2 by omega]
          cases fourP t 4 0 (a + 2) with
          | error e => rfl
          | ok x =>
            obtain ⟨m, b⟩ := x
            simp only
            by_cases d1 : m < 56320
            · rw [if_pos d1, if_pos d1]
            · rw [if_neg d1, if_neg d1]
              by_cases d2 : m > 57343
              · rw [if_pos d2, if_pos d2]
              · rw [if_neg d2, if_neg d2]
        · rw [if_neg c4, if_neg c4]
      · rw [if_neg c3, if_neg c3]
    · rw [if_neg c2, if_neg c2]
  · rw [if_neg c1, if_neg c1]
theorem pair_ev (a : Nat) (hA : a ≤ 140737488351290) : Ev (fun q => sealringref04_pair.f q t (a : Int)) (exN (pairM t (a : Int))) := by
  unfold sealringref04_pair.f pairM
  have w1 : wrap64 ((a : Int) + 1) = (a : Int) + 1 := w64 (by omega) (by omega)
  have w2 : wrap64 ((a : Int) + 2) = ((a + 2 : Nat) : Int) := by rw [w64 (by omega) (by omega)]; rfl
  by_cases c1 : (a : Int) < (t.size : Int)
  · rw [if_pos c1]
    refine evNeg (by omega) (evPos (by omega) (evPos c1 ?_))
    by_cases c2 : bt t (a : Int) = 92
    · rw [if_pos c2]
      refine evPos c2 ?_
      rw [w1]
      by_cases c3 : (a : Int) + 1 < (t.size : Int)
      · rw [if_pos c3]
        refine evNeg (by omega) (evPos (by omega) (evPos c3 ?_))
        by_cases c4 : bt t ((a : Int) + 1) = 117
        · rw [if_pos c4]
          refine evPos c4 ?_
          rw [w2]
          refine Ev.bind (four_ev t (a + 2) (by omega)) ?_
          rw [show (a : Int) + 2 = ((a + 2 : Nat) : Int) by omega]
          cases hf : fourP t 4 0 ((a + 2 : Nat) : Int) with
          | error e =>
            exact evNeg (by have := four_err 4 _ _ hf; show ¬ e = 0; omega) (Ev.now _)
          | ok x =>
            obtain ⟨m, b⟩ := x
            refine evPos rfl ?_
            show Ev _ (exN (if m < 56320 then .error 11 else if m > 57343 then .error 11 else .ok (m, b)))
            by_cases d1 : m < 56320
            · rw [if_pos d1]; exact evPos d1 (Ev.now _)
            · rw [if_neg d1]
              refine evNeg d1 ?_
              by_cases d2 : m > 57343
              · rw [if_pos d2]; exact evPos d2 (Ev.now _)
              · rw [if_neg d2]; exact evNeg d2 (Ev.now _)
        · rw [if_neg c4]; exact evNeg c4 (Ev.now _)
      · rw [if_neg c3]; exact evPos (by omega) (Ev.now _)
    · rw [if_neg c2]; exact evNeg c2 (Ev.now _)
  · rw [if_neg c1]; exact evPos (by omega) (Ev.now _)
theorem pairM_err {a e : Int} (h : pairM t a = .error e) : e = 11 ∨ e = 5 := by
  unfold pairM at h
  repeat' split at h
  all_goals first | (cases h; done) | (cases h; omega) | skip
  all_goals (rename_i hf; cases h; exact four_err 4 _ _ hf)
theorem pairM_place {a m b : Int} (h : pairM t a = .ok (m, b)) (ha : 0 ≤ a) : b = a + 6 ∧ 56320 ≤ m ∧ m ≤ 57343 := by
  unfold pairM at h
  by_cases c1 : a < (t.size : Int)
  · rw [if_pos c1] at h
    by_cases c2 : bt t a = 92
    · rw [if_pos c2] at h
      by_cases c3 : a + 1 < (t.size : Int)
      · rw [if_pos c3] at h
        by_cases c4 : bt t (a + 1) = 117
        · rw [if_pos c4] at h
          cases hf : fourP t 4 0 (a + 2) with
          | error e => rw [hf] at h; cases h
          | ok x =>
            obtain ⟨m', b'⟩ := x
            rw [hf] at h
            simp only at h
            by_cases d1 : m' < 56320
            · rw [if_pos d1] at h; cases h
            · rw [if_neg d1] at h
              by_cases d2 : m' > 57343
              · rw [if_pos d2] at h; cases h
              · rw [if_neg d2] at h
                simp only [Except.ok.injEq, Prod.mk.injEq] at h
                obtain ⟨rfl, rfl⟩ := h
                by_cases c5 : a + 2 ≤ (t.size : Int)
                · have := (four_place 4 0 (a + 2) (by omega) c5 hf).2.2.1; omega
                · simp only [fourP] at hf
                  rw [if_neg (by omega)] at hf
                  cases hf
        · rw [if_neg c4] at h; cases h
      · rw [if_neg c3] at h; cases h
    · rw [if_neg c2] at h; cases h
  · rw [if_neg c1] at h; cases h
theorem small_none {c : Int} (h : shortP c = none) : ∀ n : Int, smallP n ≠ 0 → smallP n ≠ c := by
  intro n hn e
  subst e
  unfold smallP at hn h
  split at h
  · rename_i h1
    rcases h1 with rfl | rfl <;> exact absurd h (by decide)
  · repeat' split at h
    all_goals first | exact absurd h (by decide) | skip
    simp_all
theorem small_range (c v : Int) (h : shortP c = some v) (h47 : c ≠ 47) : 0 ≤ v ∧ v < 128 ∧ smallP v = c ∧ c ≠ 0 := by
  unfold shortP at h
  repeat' split at h
  all_goals first | (cases h; omega) | (cases h; subst_vars; refine ⟨by omega, by omega, by decide, by omega⟩) | cases h
theorem small_inj {n m c : Int} (hc : c ≠ 0) (h1 : smallP n = c) (h2 : smallP m = c) : n = m := by
  unfold smallP at h1 h2
  repeat' split at h1
  all_goals repeat' split at h2
  all_goals omega
def escN : Except Int (Int × Int) → Int → Int × Int × Int | .ok (v, b), a => (v, b - a, 0) | .error e, _ => (0, 0, e)
theorem escape_tail (a : Nat) (hA : a ≤ 140737488351232) (hs : (a : Int) < (t.size : Int)) (hsh : shortP (bt t (a : Int)) = none) : Ev (fun q => if bt t (a : Int) = 117 then ((sealringref04_four.f q t (wrap64 ((a : Int) + 1))).bind fun bt226 => (if bt226.2 = 0 then (if bt226.1 < 55296 then (sealringref04_escape.j1 q t (a : Int) bt226.1 true) else (sealringref04_escape.j1 q t (a : Int) bt226.1 (decide (bt226.1 > 57343)))) else (some (0, 0, bt226.2)))) else (some (0, 0, 11))) (escN (escP t (a : Int)) (a : Int)) := by
  unfold escP
  rw [if_pos hs, hsh]
  simp only
  by_cases c2 : bt t (a : Int) = 117
  · rw [if_pos c2]
    refine evPos c2 ?_
    have w1 : wrap64 ((a : Int) + 1) = ((a + 1 : Nat) : Int) := by rw [w64 (by omega) (by omega)]; rfl
    rw [w1, show (a : Int) + 1 = ((a + 1 : Nat) : Int) by omega]
    refine Ev.bind (four_ev t (a + 1) (by omega)) ?_
    cases hf : fourP t 4 0 ((a + 1 : Nat) : Int) with
    | error e => exact evNeg (by have := four_err 4 _ _ hf; show ¬ e = 0; omega) (Ev.now _)
    | ok x =>
      obtain ⟨n, b⟩ := x
      have hp := four_place 4 0 _ (by omega) (by omega) hf
      have hn := hp.2.2.2 (by omega)
      have hb := hp.2.2.1
      refine evPos rfl ?_
      show Ev (fun q => if n < 55296 then sealringref04_escape.j1 q t (a : Int) n true else sealringref04_escape.j1 q t (a : Int) n (decide (n > 57343))) _
      simp only
      by_cases d1 : n < 55296
      · rw [if_pos d1]
        refine evPos d1 (Ev.step (f := fun _ => some (n, 5, 0)) (fun q => ?_) ?_)
        · rw [sealringref04_escape.j1, if_pos rfl]
        · have : escN (.ok (n, b)) (a : Int) = (n, 5, 0) := by simp [escN]; omega
          rw [this]; exact Ev.now _
      · rw [if_neg d1]
        refine evNeg d1 ?_
        by_cases d2 : n > 57343
        · rw [if_pos d2]
          refine Ev.step (f := fun _ => some (n, 5, 0)) (fun q => ?_) ?_
          · rw [sealringref04_escape.j1, if_pos (decide_eq_true d2)]
          · have : escN (.ok (n, b)) (a : Int) = (n, 5, 0) := by simp [escN]; omega
            rw [this]; exact Ev.now _
        · rw [if_neg d2]
          by_cases d3 : n > 56319
          · rw [if_pos d3]
            refine Ev.step (f := fun _ => some (0, 0, 11)) (fun q => ?_) (Ev.now _)
            rw [sealringref04_escape.j1, if_neg (by simp; omega), if_pos d3]
          · rw [if_neg d3]
            have w5 : wrap64 ((a : Int) + 5) = ((a + 5 : Nat) : Int) := by rw [w64 (by omega) (by omega)]; rfl
            refine Ev.step (f := fun q => (sealringref04_pair.f q t ((a + 5 : Nat) : Int)).bind fun bt228 => (if bt228.2 = 0 then (some (wrap64 ((wrap64 ((wrap64 (65536 + (wrap64 (1024 * (wrap64 (n - 55296)))))) + bt228.1)) - 56320), 11, 0)) else (some (0, 0, bt228.2)))) (fun q => ?_) ?_
            · rw [sealringref04_escape.j1, if_neg (by simp; omega), if_neg d3, w5]
            · refine Ev.bind (pair_ev t (a + 5) (by omega)) ?_
              obtain rfl : b = ((a + 5 : Nat) : Int) := by omega
              rw [pairP_M]
              cases hm : pairM t ((a + 5 : Nat) : Int) with
              | error e => exact evNeg (by have := pairM_err t hm; show ¬ e = 0; omega) (Ev.now _)
              | ok x =>
                obtain ⟨m, b⟩ := x
                have hq := pairM_place t hm (by omega)
                refine evPos rfl ?_
                have : escN (.ok (65536 + (n - 55296) * 1024 + (m - 56320), b)) (a : Int) = (wrap64 ((wrap64 ((wrap64 (65536 + (wrap64 (1024 * (wrap64 (n - 55296)))))) + m)) - 56320), 11, 0) := by
                  rw [w64 (x := n - 55296) (by omega) (by omega), w64 (x := 1024 * (n - 55296)) (by omega) (by omega), w64 (x := 65536 + 1024 * (n - 55296)) (by omega) (by omega), w64 (x := 65536 + 1024 * (n - 55296) + m) (by omega) (by omega), w64 (by omega) (by omega)]
                  simp [escN]
                  omega
                rw [this]
                exact Ev.now _
  · rw [if_neg c2]
    exact evNeg c2 (Ev.now _)
theorem escape_go (a : Nat) (hA : a ≤ 140737488351232) (hs : (a : Int) < (t.size : Int)) (h47 : bt t (a : Int) ≠ 47) : ∀ (d i : Nat), d + i = 128 → (∀ v, shortP (bt t (a : Int)) = some v → (i : Int) ≤ v) → Ev (fun q => sealringref04_escape.l0 q t (a : Int) (bt t (a : Int)) (i : Int)) (escN (escP t (a : Int)) (a : Int)) := by
  intro d
  induction d with
  | zero =>
    intro i hi hv
    cases hsh : shortP (bt t (a : Int)) with
    | some v =>
      have := small_range _ _ hsh h47
      have := hv v hsh
      omega
    | none =>
      refine Ev.step (fun q => ?_) (escape_tail t a hA hs hsh)
      rw [sealringref04_escape.l0, if_neg (by omega)]
  | succ d ih =>
    intro i hi hv
    refine Ev.step (f := fun q => (sealringref04_small.f q (i : Int)).bind fun t224 => (if t224 = 0 then (sealringref04_escape.l0 q t (a : Int) (bt t (a : Int)) (wrap64 ((i : Int) + 1))) else ((sealringref04_small.f q (i : Int)).bind fun t225 => (if t225 = bt t (a : Int) then (some ((i : Int), 1, 0)) else (sealringref04_escape.l0 q t (a : Int) (bt t (a : Int)) (wrap64 ((i : Int) + 1))))))) (fun q => ?_) ?_
    · rw [sealringref04_escape.l0, if_pos (by omega)]
    · refine Ev.bind (small_ev (i : Int)) ?_
      have hnext : (smallP (i : Int) ≠ bt t (a : Int) ∨ smallP (i : Int) = 0) → Ev (fun q => sealringref04_escape.l0 q t (a : Int) (bt t (a : Int)) (wrap64 ((i : Int) + 1))) (escN (escP t (a : Int)) (a : Int)) := fun hne => by
        rw [w64s i (by omega)]
        refine ih (i + 1) (by omega) (fun v hsh => ?_)
        have h1 := hv v hsh
        have h2 := small_range _ _ hsh h47
        by_cases e : v = (i : Int)
        · subst e
          rcases hne with h | h
          · exact absurd h2.2.2.1 h
          · rw [h2.2.2.1] at h; exact absurd h h2.2.2.2
        · omega
      by_cases c1 : smallP (i : Int) = 0
      · exact evPos c1 (hnext (.inr c1))
      · refine evNeg c1 (Ev.bind (small_ev (i : Int)) ?_)
        by_cases c2 : smallP (i : Int) = bt t (a : Int)
        · refine evPos c2 ?_
          cases hsh : shortP (bt t (a : Int)) with
          | none => exact absurd c2 (small_none hsh _ c1)
          | some v =>
            have h2 := small_range _ _ hsh h47
            obtain rfl : (i : Int) = v := small_inj h2.2.2.2 c2 h2.2.2.1
            have : escN (escP t (a : Int)) (a : Int) = ((i : Int), 1, 0) := by
              unfold escP
              rw [if_pos hs, hsh]
              simp [escN]
              omega
            rw [this]
            exact Ev.now _
        · exact evNeg c2 (hnext (.inl c2))
theorem escape_ev (a : Nat) (hA : a ≤ 140737488351232) : Ev (fun q => sealringref04_escape.f q t (a : Int)) (escN (escP t (a : Int)) (a : Int)) := by
  unfold sealringref04_escape.f
  by_cases hs : (a : Int) < (t.size : Int)
  · refine evNeg (by omega) (evPos (by omega) (evPos hs ?_))
    by_cases c : bt t (a : Int) = 47
    · refine evPos c ?_
      have : escN (escP t (a : Int)) (a : Int) = (47, 1, 0) := by
        unfold escP
        rw [if_pos hs, c]
        have : shortP 47 = some 47 := by decide
        rw [this]
        simp [escN]
        omega
      rw [this]
      exact Ev.now _
    · exact evNeg c (escape_go t a hA hs c 128 0 (by omega) (fun v hv => (small_range _ _ hv c).1))
  · refine evPos (by omega) ?_
    unfold escP
    rw [if_neg hs]
    exact Ev.now _
end
end Go.Proofs.Ytjdgjifacdnkgaa.X
end
section
namespace Go.Proofs.Ytjdgjifacdnkgaa.X
open Go.RowKit Go.Proofs.YtjdgjifacdnkgaaW.PrintWords Go.Proofs.YtjdgjifacdnkgaaW.PrintLast Go.Proofs.YtjdgjifacdnkgaaW.PrintMore
set_option linter.unusedVariables false
set_option linter.unusedSimpArgs false
theorem son_app (a b : List Int) : strOfNums a ++ strOfNums b = strOfNums (a ++ b) := by
  apply ByteArray.ext
  simp [strOfNums, ByteArray.data_append]
theorem pairP_err {t : ByteArray} {n a e : Int} (h : pairP t n a = .error e) : e = 11 ∨ e = 5 := by
  rw [pairP_M] at h
  cases hm : pairM t a with
  | error e' => rw [hm] at h; cases h; exact pairM_err t hm
  | ok x => obtain ⟨m, b⟩ := x; rw [hm] at h; cases h
theorem escP_err {t : ByteArray} {a e : Int} (h : escP t a = .error e) : e = 11 ∨ e = 5 := by
  unfold escP at h
  split at h
  · split at h
    · cases h
    · split at h
      · split at h
        · rename_i hf; cases h; exact four_err 4 _ _ hf
        · split at h
          · cases h
          · split at h
            · cases h
            · split at h
              · cases h; exact .inl rfl
              · exact pairP_err h
      · cases h; exact .inl rfl
  · cases h; exact .inr rfl
def exT : Except Int (List Int × Int) → ByteArray × Int × Int | .ok (l, b) => (strOfNums l, b, 0) | .error e => (⟨#[]⟩, 0, e)
theorem unq_go (t : ByteArray) (ht : t.size ≤ 35184372080000) : ∀ (f a : Nat) (l : List Int), t.size < f + a → a ≤ t.size → l.length ≤ 4 * a → Ev (fun q => sealringref04_Unquote.l0 q t (strOfNums l) (a : Int)) (exT (textP t f (a : Int) l)) := by
  intro f
  induction f with
  | zero => intro a l h1 h2; omega
  | succ f ih =>
    intro a l h1 h2 h3
    have hs2 : t.size ≤ 140737488351232 := by omega
    simp only [textP]
    by_cases c1 : (a : Int) < (t.size : Int)
    · rw [if_pos c1]
      refine Ev.step (f := fun q => sealringref04_Unquote.j2 q t (strOfNums l) (a : Int) ((bt t (a : Int)) != 34)) (fun q => ?_) ?_
      · rw [sealringref04_Unquote.l0, if_pos c1, if_pos (by omega)]
      by_cases c2 : bt t (a : Int) = 34
      · rw [if_pos c2]
        refine Ev.step (f := fun q => some (strOfNums l, (a : Int) + 1, 0)) (fun q => ?_) (Ev.now _)
        rw [sealringref04_Unquote.j2, if_neg (by simp [c2]), if_neg (by omega), w64 (by omega) (by omega)]
      · rw [if_neg c2]
        refine Ev.step (f := fun k => if (bt t (a : Int)) < 32 then (some ((⟨#[]⟩ : ByteArray), 0, 6)) else ((sealringref03_Next.f k t (a : Int)).bind fun bt230 => (if (bt t (a : Int)) = 92 then ((sealringref04_escape.f k t (wrap64 ((a : Int) + 1))).bind fun bt232 => (sealringref04_Unquote.j3 k t (strOfNums l) (a : Int) bt232.1 (wrap64 (bt232.2.1 + 1)) bt232.2.2)) else (sealringref04_Unquote.j3 k t (strOfNums l) (a : Int) bt230.1 bt230.2 0)))) (fun q => ?_) ?_
        · rw [sealringref04_Unquote.j2, if_pos (by simp [c2]), if_pos (by omega), if_pos c1]
        have hgo : ∀ (v : Int) (b : Nat), isv v = true → a + 1 ≤ b → b ≤ t.size → (b : Int) - a ≤ 300 → Ev (fun k => sealringref04_Unquote.j3 k t (strOfNums l) (a : Int) v ((b : Int) - (a : Int)) 0) (exT (textP t f (b : Int) (l ++ formL v))) := fun v b hv hb1 hb2 hb3 => by
          have hr := isv_iff.1 hv
          have hl4 := (formL_le v).2
          have h9 := ih b (l ++ formL v) (by omega) hb2 (by rw [List.length_append]; omega)
          refine Ev.step (f := fun k => if (strOfNums l).size + (strOfNums (formL v)).size ≤ 9223372036854775807 then sealringref04_Unquote.l0 k t (strOfNums l ++ strOfNums (formL v)) (wrap64 ((a : Int) + ((b : Int) - (a : Int)))) else none) (fun k => ?_) ?_
          · rw [sealringref04_Unquote.j3, if_pos rfl, if_neg (by omega), Form_f v hr.1 (by omega)]
            rfl
          · have hsz : (strOfNums l).size + (strOfNums (formL v)).size ≤ 9223372036854775807 := by rw [son_size, son_size]; omega
            refine evPos hsz ?_
            rw [w64 (by omega) (by omega), show (a : Int) + ((b : Int) - (a : Int)) = (b : Int) by omega, son_app]
            exact h9
        by_cases c3 : bt t (a : Int) = 92
        · rw [if_pos c3]
          refine evNeg (by omega) (Ev.bind (rNext_ev t hs2 a) (evPos c3 ?_))
          rw [show wrap64 ((a : Int) + 1) = ((a + 1 : Nat) : Int) by rw [w64 (by omega) (by omega)]; rfl]
          refine Ev.bind (escape_ev t (a + 1) (by omega)) ?_
          rw [show (a : Int) + 1 = ((a + 1 : Nat) : Int) by omega]
          cases he : escP t ((a + 1 : Nat) : Int) with
          | error e =>
            have hne := escP_err he
            refine Ev.step (f := fun _ => some (⟨#[]⟩, 0, e)) (fun k => ?_) (Ev.now _)
            show sealringref04_Unquote.j3 (k + 1) t (strOfNums l) (a : Int) 0 (wrap64 (0 + 1)) e = _
            rw [sealringref04_Unquote.j3, if_neg (by omega)]
          | ok x =>
            obtain ⟨v, b⟩ := x
            have hp := esc_place (by omega) he
            have hb : b - ((a + 1 : Nat) : Int) ≤ 11 := by
              have h := he
              unfold escP at h
              split at h
              · split at h
                · cases h; omega
                · split at h
                  · split at h
                    · cases h
                    · rename_i hf
                      have hq := (four_place 4 0 _ (by omega) (by omega) hf).2.2.1
                      split at h
                      · cases h; omega
                      · split at h
                        · cases h; omega
                        · split at h
                          · cases h
                          · rw [pairP_M] at h
                            split at h
                            · cases h
                            · rename_i hm
                              have := (pairM_place t hm (by omega)).1
                              cases h
                              omega
                  · cases h
              · cases h
            obtain ⟨bn, rfl⟩ : ∃ bn : Nat, b = (bn : Int) := ⟨b.toNat, by omega⟩
            show Ev (fun k => sealringref04_Unquote.j3 k t (strOfNums l) (a : Int) v (wrap64 ((bn : Int) - ((a + 1 : Nat) : Int) + 1)) 0) _
            rw [w64 (by omega) (by omega), show (bn : Int) - ((a + 1 : Nat) : Int) + 1 = (bn : Int) - (a : Int) by omega]
            exact hgo v bn hp.1 (by omega) (by omega) (by omega)
        · rw [if_neg c3]
          by_cases c4 : bt t (a : Int) < 32
          · rw [if_pos c4]
            exact evPos c4 (Ev.now _)
          · rw [if_neg c4]
            refine evNeg c4 (Ev.bind (rNext_ev t hs2 a) (evNeg c3 ?_))
            rw [show ((a : Int)).toNat = a from rfl]
            cases hd : dec t a with
            | none =>
              refine Ev.step (f := fun _ => some (⟨#[]⟩, 0, 10)) (fun k => ?_) (Ev.now _)
              show sealringref04_Unquote.j3 (k + 1) t (strOfNums l) (a : Int) 0 0 0 = _
              rw [sealringref04_Unquote.j3, if_pos rfl, if_pos rfl]
            | some vn =>
              obtain ⟨v, n⟩ := vn
              have hdf := dec_form hd
              have hdr := dec_range hd
              have hv : isv v = true := by
                have := (isv_sz v).2
                by_cases hv : isv v = true
                · exact hv
                · exact absurd (this (by simpa using hv)) (by omega)
              have h9 := hgo v (a + n) hv (by omega) (by omega) (by omega)
              show Ev (fun k => sealringref04_Unquote.j3 k t (strOfNums l) (a : Int) v (n : Int) 0) (exT (textP t f ((a : Int) + (n : Int)) (l ++ formL v)))
              rw [show ((a + n : Nat) : Int) - (a : Int) = (n : Int) by omega, show ((a + n : Nat) : Int) = (a : Int) + (n : Int) by omega] at h9
              exact h9
    · rw [if_neg c1]
      refine Ev.step (f := fun q => sealringref04_Unquote.j2 q t (strOfNums l) (a : Int) false) (fun q => ?_) ?_
      · rw [sealringref04_Unquote.l0, if_neg c1]
      · refine Ev.step (f := fun _ => some (⟨#[]⟩, 0, 5)) (fun q => ?_) (Ev.now _)
        rw [sealringref04_Unquote.j2, if_neg (by simp), if_pos (by omega)]
theorem rUnquote_ev (t : ByteArray) (ht : t.size ≤ 35184372080000) (a : Int) : Ev (fun q => sealringref04_Unquote.f q t a) (unqP t a) := by
  unfold sealringref04_Unquote.f unqP
  by_cases c1 : a < 0
  · rw [if_pos c1]
    refine evPos c1 (Ev.step (f := fun _ => some (⟨#[]⟩, 0, 1)) (fun k => ?_) (Ev.now _))
    rw [sealringref04_Unquote.j0, if_pos rfl]
  · rw [if_neg c1]
    refine evNeg c1 ?_
    by_cases c2 : a > (t.size : Int)
    · rw [if_pos c2]
      refine Ev.step (f := fun _ => some (⟨#[]⟩, 0, 1)) (fun k => ?_) (Ev.now _)
      rw [sealringref04_Unquote.j0, if_pos (decide_eq_true c2)]
    · rw [if_neg c2]
      by_cases c3 : a = (t.size : Int)
      · rw [if_pos c3]
        refine Ev.step (f := fun _ => some (⟨#[]⟩, 0, 5)) (fun k => ?_) (Ev.now _)
        rw [sealringref04_Unquote.j0, if_neg (by simp; omega), if_pos c3]
      · rw [if_neg c3]
        by_cases c4 : bt t a = 34
        · rw [if_pos c4]
          obtain ⟨an, rfl⟩ : ∃ an : Nat, a = (an : Int) := ⟨a.toNat, by omega⟩
          have h := unq_go t ht (t.size + 1) (an + 1) [] (by omega) (by omega) (by simp)
          refine Ev.step (f := fun k => sealringref04_Unquote.l0 k t (⟨#[]⟩ : ByteArray) (wrap64 ((an : Int) + 1))) (fun k => ?_) ?_
          · rw [sealringref04_Unquote.j0, if_neg (by simp; omega), if_neg c3, if_pos (by omega), if_pos (by omega), if_pos c4]
          · rw [w64s an (by omega), show (an : Int) + 1 = ((an + 1 : Nat) : Int) by omega]
            cases hx : textP t (t.size + 1) ((an + 1 : Nat) : Int) [] with
            | error e => rw [hx] at h; exact h
            | ok x => rw [hx] at h; exact h
        · rw [if_neg c4]
          refine Ev.step (f := fun _ => some (⟨#[]⟩, 0, 6)) (fun k => ?_) (Ev.now _)
          rw [sealringref04_Unquote.j0, if_neg (by simp; omega), if_neg c3, if_pos (by omega), if_pos (by omega), if_neg c4]
end Go.Proofs.Ytjdgjifacdnkgaa.X
end
section
namespace Go.Proofs.Ytjdgjifacdnkgaa.X
open Go.RowKit Go.Proofs.YtjdgjifacdnkgaaW.PrintWords Go.Proofs.YtjdgjifacdnkgaaW.PrintLast
set_option linter.unusedVariables false
set_option linter.unusedSimpArgs false
theorem isDig_iff {s : ByteArray} {i : Int} : isDig s i = true ↔ i < (s.size : Int) ∧ 48 ≤ bt s i ∧ bt s i ≤ 57 := by simp [isDig]
theorem pow10_le {j k : Nat} (h : j ≤ k) : (10 : Int) ^ j ≤ 10 ^ k := by
  have := Nat.pow_le_pow_right (n := 10) (by omega) h
  exact_mod_cast this
def cntD (s : ByteArray) (b : Nat) : Nat → Nat
  | 0 => 0
  | k + 1 => if isDig s (b : Int) = true then 1 + cntD s (b + 1) k else 0
def valD (s : ByteArray) (b : Nat) : Nat → Int
  | 0 => 0
  | m + 1 => 10 * valD s b m + (bt s ((b + m : Nat) : Int) - 48)
theorem cntD_dig (s : ByteArray) : ∀ (k b j : Nat), j < cntD s b k → isDig s ((b + j : Nat) : Int) = true
  | 0, b, j, h => by simp [cntD] at h
  | k + 1, b, j, h => by
    unfold cntD at h
    by_cases c : isDig s (b : Int) = true
    · rw [if_pos c] at h
      cases j with
      | zero => exact c
      | succ j =>
        have := cntD_dig s k (b + 1) j (by omega)
        rwa [show b + 1 + j = b + (j + 1) from by omega] at this
    · rw [if_neg c] at h; omega
theorem cntD_end (s : ByteArray) : ∀ (k b : Nat), s.size < b + k → isDig s ((b + cntD s b k : Nat) : Int) = false
  | 0, b, h => by simp [isDig, cntD]; omega
  | k + 1, b, h => by
    unfold cntD
    by_cases c : isDig s (b : Int) = true
    · rw [if_pos c]
      have := cntD_end s k (b + 1) (by omega)
      rwa [show b + 1 + cntD s (b + 1) k = b + (1 + cntD s (b + 1) k) from by omega] at this
    · rw [if_neg c]; simpa using c
theorem cntD_le (s : ByteArray) : ∀ (k b : Nat), b ≤ s.size → b + cntD s b k ≤ s.size
  | 0, b, h => by simp [cntD]; exact h
  | k + 1, b, h => by
    unfold cntD
    by_cases c : isDig s (b : Int) = true
    · rw [if_pos c]
      have := (isDig_iff.1 c).1
      have := cntD_le s k (b + 1) (by omega)
      omega
    · rw [if_neg c]; omega
theorem valD_nn (s : ByteArray) (b : Nat) : ∀ m, (∀ j, j < m → isDig s ((b + j : Nat) : Int) = true) → 0 ≤ valD s b m
  | 0, _ => by simp [valD]
  | m + 1, h => by
    have h1 := valD_nn s b m (fun j hj => h j (by omega))
    have h2 := isDig_iff.1 (h m (by omega))
    simp only [valD]; omega
theorem valD_le (s : ByteArray) (b : Nat) : ∀ m, (∀ j, j < m → isDig s ((b + j : Nat) : Int) = true) → valD s b m < 10 ^ m
  | 0, _ => by simp [valD]
  | m + 1, h => by
    have h1 := valD_le s b m (fun j hj => h j (by omega))
    have h2 := isDig_iff.1 (h m (by omega))
    simp only [valD]
    rw [show (10 : Int) ^ (m + 1) = 10 * 10 ^ m from by rw [Int.pow_succ, Int.mul_comm]]
    omega
theorem valD_ge (s : ByteArray) (b : Nat) (hb : bt s (b : Int) ≠ 48) : ∀ m, (∀ j, j < m + 1 → isDig s ((b + j : Nat) : Int) = true) → 10 ^ m ≤ valD s b (m + 1)
  | 0, h => by
    have h2 := isDig_iff.1 (h 0 (by omega))
    simp only [valD, Nat.add_zero] at h2 ⊢
    simp
    omega
  | m + 1, h => by
    have h1 := valD_ge s b hb m (fun j hj => h j (by omega))
    have h2 := isDig_iff.1 (h (m + 1) (by omega))
    rw [valD]
    rw [show (10 : Int) ^ (m + 1) = 10 * 10 ^ m from by rw [Int.pow_succ, Int.mul_comm]]
    omega
theorem scanL_run (s : ByteArray) (b : Nat) : ∀ (d k j : Nat) (n : Int) (o : Bool), cntD s (b + j) k = d → s.size < b + j + k → (∀ q, q < j → isDig s ((b + q : Nat) : Int) = true) →
    (o = false → n = valD s b j ∧ n ≤ 9007199254740991) → (o = true → 0 ≤ n ∧ 9007199254740991 < valD s b j) →
    ∃ n', scanL s k n ((b + j : Nat) : Int) o = (n', ((b + (j + d) : Nat) : Int), decide (9007199254740991 < valD s b (j + d))) ∧ (valD s b (j + d) ≤ 9007199254740991 → n' = valD s b (j + d)) := by
  intro d
  induction d with
  | zero =>
    intro k j n o hd hk hq hf ht
    have hx := cntD_end s k (b + j) hk
    rw [hd] at hx
    have hval : (o = decide (9007199254740991 < valD s b j)) ∧ (valD s b j ≤ 9007199254740991 → n = valD s b j) := by
      cases o with
      | false => have := hf rfl; exact ⟨by symm; simp; omega, fun _ => this.1⟩
      | true => have := ht rfl; exact ⟨by symm; simp; omega, fun h => by omega⟩
    refine ⟨n, ?_, hval.2⟩
    cases k with
    | zero =>
      simp only [scanL]
      show (n, ((b + j : Nat) : Int), o) = (n, ((b + j : Nat) : Int), decide (9007199254740991 < valD s b j))
      rw [← hval.1]
    | succ k =>
      simp only [scanL]
      rw [if_neg (by rw [show ((b + j : Nat) : Int) = ((b + j + 0 : Nat) : Int) from rfl, hx]; simp)]
      show (n, ((b + j : Nat) : Int), o) = (n, ((b + j : Nat) : Int), decide (9007199254740991 < valD s b j))
      rw [← hval.1]
  | succ d ih =>
    intro k j n o hd hk hq hf ht
    cases k with
    | zero => simp [cntD] at hd
    | succ k =>
      unfold cntD at hd
      by_cases c : isDig s ((b + j : Nat) : Int) = true
      · rw [if_pos c] at hd
        have hc := isDig_iff.1 c
        have hq' : ∀ q, q < j + 1 → isDig s ((b + q : Nat) : Int) = true := by
          intro q hq2
          by_cases e : q = j
          · subst e; exact c
          · exact hq q (by omega)
        have hvn := valD_nn s b j hq
        have hstep : valD s b (j + 1) = 10 * valD s b j + (bt s ((b + j : Nat) : Int) - 48) := rfl
        have e1 : ((b + j : Nat) : Int) + 1 = ((b + (j + 1) : Nat) : Int) := by omega
        have e2 : j + (d + 1) = (j + 1) + d := by omega
        simp only [scanL]
        rw [if_pos c, e2]
        by_cases c2 : 10 * n + (bt s ((b + j : Nat) : Int) - 48) > 9007199254740991
        · rw [if_pos c2, e1]
          refine ih k (j + 1) _ true (by rw [show b + (j + 1) = b + j + 1 from by omega]; omega) (by omega) hq' (fun h => by cases h) (fun _ => ⟨by omega, ?_⟩)
          cases o with
          | false => have := hf rfl; omega
          | true => have := ht rfl; omega
        · rw [if_neg c2, e1]
          refine ih k (j + 1) _ o (by rw [show b + (j + 1) = b + j + 1 from by omega]; omega) (by omega) hq' (fun h => ?_) (fun h => ?_)
          · have := hf h; omega
          · have := ht h; omega
      · rw [if_neg c] at hd; omega
theorem scan_from (s : ByteArray) (a : Int) (b : Nat) (hb : b < s.size) (hd : isDig s (b : Int) = true) :
    ∃ D n', cntD s b (s.size - b + 1) = D ∧ 0 < D ∧ b + D ≤ s.size ∧ (∀ q, q < D → isDig s ((b + q : Nat) : Int) = true) ∧
      scanFrom s a (b : Int) = scanEnd s a (b : Int) n' ((b + D : Nat) : Int) (decide (9007199254740991 < valD s b D)) ∧ (valD s b D ≤ 9007199254740991 → n' = valD s b D) := by
  obtain ⟨n', h1, h2⟩ := scanL_run s b (cntD s b (s.size - b + 1)) (s.size - b + 1) 0 0 false rfl (by omega) (fun q hq => by omega) (fun _ => ⟨rfl, by omega⟩) (fun h => by cases h)
  refine ⟨cntD s b (s.size - b + 1), n', rfl, ?_, cntD_le s _ b (by omega), fun q hq => cntD_dig s _ b q hq, ?_, ?_⟩
  · unfold cntD; rw [if_pos hd]; omega
  · unfold scanFrom
    rw [if_neg (by omega), if_pos hd]
    have e : ((s.size : Int) - (b : Int)).toNat + 1 = s.size - b + 1 := by omega
    have e0 : ((b : Nat) : Int) = ((b + 0 : Nat) : Int) := rfl
    rw [e, show scanL s (s.size - b + 1) 0 (b : Int) false = _ from h1]
    simp only [Nat.zero_add]
  · simpa using h2
end Go.Proofs.Ytjdgjifacdnkgaa.X
end
section
namespace Go.Proofs.Ytjdgjifacdnkgaa.X
open Go.RowKit Go.Proofs.YtjdgjifacdnkgaaW.PrintWords Go.Proofs.YtjdgjifacdnkgaaW.PrintLast Go.Proofs.YtjdgjifacdnkgaaW.PrintMore
attribute [local go_sem] max2_int min2_int max_two min_two max_three min_three max_four min_four
set_option linter.unusedVariables false
set_option linter.unusedSimpArgs false
def sealringref05_digits.l0 : Nat → ByteArray → Int → Int → Option (Int)
  | 0, _, _, _ => none
  | k + 1, x0, x1, x5 => if (wrap64 (x1 + x5)) < (x0.size : Int) then (if 0 ≤ (wrap64 (x1 + x5)) then (if (bt x0 (wrap64 (x1 + x5))) ≥ 48 then (if (bt x0 (wrap64 (x1 + x5))) ≤ 57 then (sealringref05_digits.l0 k x0 x1 (wrap64 (x5 + 1))) else (some x5)) else (some x5)) else (none)) else (some x5)
def sealringref05_digits.f (k : Nat) (a0 : ByteArray) (a1 : Int) : Option (Int) := sealringref05_digits.l0 k a0 a1 0
theorem sealringref05_digits.mono_l : ∀ k, (∀ y0 y1 y2, LeO (sealringref05_digits.l0 k y0 y1 y2) (sealringref05_digits.l0 (k + 1) y0 y1 y2))
  | 0 => fun _ _ _ r h => by simp [sealringref05_digits.l0] at h
  | k + 1 => by
    have ih0 := sealringref05_digits.mono_l k
    · intro y0 y1 y2
      unfold sealringref05_digits.l0
      repeat' first
      | (with_reducible exact ih0 _ _ _)
      | (with_reducible exact LeO.refl _)
      | (with_reducible exact LeO.none _)
      | (with_reducible refine LeO.ite ?_ ?_)
      | (with_reducible refine LeO.bind ?_ (fun _ => ?_))
      | exact ih0 _ _ _
      | exact LeO.none _
      | refine LeO.ite ?_ ?_
      | refine LeO.bind ?_ (fun _ => ?_)
theorem sealringref05_digits.mono : ∀ a0 a1 k, LeO (sealringref05_digits.f k a0 a1) (sealringref05_digits.f (k + 1) a0 a1) := by
  intro a0 a1 k
  have ih0 := sealringref05_digits.mono_l k
  unfold sealringref05_digits.f
  repeat' first
      | (with_reducible exact ih0 _ _ _)
      | (with_reducible exact LeO.refl _)
      | (with_reducible exact LeO.none _)
      | (with_reducible refine LeO.ite ?_ ?_)
      | (with_reducible refine LeO.bind ?_ (fun _ => ?_))
      | exact ih0 _ _ _
      | exact LeO.none _
      | refine LeO.ite ?_ ?_
      | refine LeO.bind ?_ (fun _ => ?_)
set_option maxHeartbeats 8000000 in
set_option maxRecDepth 100000 in
theorem sealringref05_digits.calls (k : Nat) (a0 : ByteArray) (a1 : Int) (r : Int) (w : World) (h : sealringref05_digits.f k a0 a1 = some r) :
    Calls Try.prog 32 #[.string a0, .int .i64 a1] w fun e w' => e = .returned (.int .i64 r) ∧ Drawn0 w w' := by
  have H : (sealringref05_digits.l0 k a0 a1 0) = some r := h
  clear h
  have H' := Aside0.mk H
  clear H
  go_enter Try.func32, Try.ntmps32
  go_wp2
  go_loopg [5] k (fun kq v5 w' => ∃ (x5_1 : Int), v5 = .int .i64 x5_1 ∧ Aside0 (sealringref05_digits.l0 kq a0 a1 x5_1 = some r) ∧ Aside0 (kq ≤ k) ∧ Drawn0 w w')
  case atStart => exact ⟨(0), (by first | rfl | (simp; done) | (simp [*]; done) | (simp [wrap64]; done)), (by first | with_reducible exact H' | exact H' | (subst_vars; exact H')), ⟨Nat.le_refl _⟩, by repeat (first | exact Drawn0.refl _ | apply Drawn0.step)⟩
  case round =>
    clear H'
    try clear p2
    obtain ⟨x5_1, rfl, HA, HK1, ⟨m1, rfl⟩⟩ := hrel
    cases gk with
    | zero => exact absurd HA.out (by simp [sealringref05_digits.l0])
    | succ k1 =>
      have H := HA.out
      clear HA
      simp only [sealringref05_digits.l0] at H
      by_cases c3 : (wrap64 (a1 + x5_1)) < (a0.size : Int)
      · rw [if_pos c3] at H
        have c3b0 : decide ((wrap64 (a1 + x5_1)) < (a0.size : Int)) = true := decide_eq_true c3
        clear c3
        obtain ⟨ji4, hji4⟩ : ∃ j_ : Int, (wrap64 (a1 + x5_1)) = j_ := ⟨_, rfl⟩
        replace H : (if 0 ≤ (ji4) then (if (bt a0 (ji4)) ≥ 48 then (if (bt a0 (ji4)) ≤ 57 then (sealringref05_digits.l0 k1 a0 a1 (wrap64 (x5_1 + 1))) else (some x5_1)) else (some x5_1)) else (none)) = some r := by first | (rw [hji4] at H; exact H) | (simp only [hji4] at H ⊢; exact H)
        (try rw [hji4] at c3b0)
        have hji4w : (IntKind.i64.wrap (a1 + x5_1)) = ji4 := (i64_w _).trans hji4
        by_cases c5 : 0 ≤ (ji4)
        · rw [if_pos c5] at H
          have c5b0 : decide (0 ≤ (ji4)) = true := decide_eq_true c5
          clear c5
          by_cases c7 : (bt a0 (ji4)) ≥ 48
          · rw [if_pos c7] at H
            have c7b0 : decide (48 ≤ (bt a0 (ji4))) = true := decide_eq_true c7
            clear c7
            by_cases c9 : (bt a0 (ji4)) ≤ 57
            · rw [if_pos c9] at H
              have c9b0 : decide ((bt a0 (ji4)) ≤ 57) = true := decide_eq_true c9
              clear c9
              have H' := Aside0.mk H
              clear H
              have p6 : 0 ≤ ((ji4) : Int) := of_decide_eq_true (by first | (with_reducible assumption) | assumption)
              have q6 : (ji4) < (a0.size : Int) := of_decide_eq_true (by first | (with_reducible assumption) | assumption)
              have hx6 := bt_at a0 (ji4)
              replace p6 := eq_true p6
              replace q6 := eq_true q6
              have p8 : 0 ≤ ((ji4) : Int) := of_decide_eq_true (by first | (with_reducible assumption) | assumption)
              have q8 : (ji4) < (a0.size : Int) := of_decide_eq_true (by first | (with_reducible assumption) | assumption)
              have hx8 := bt_at a0 (ji4)
              replace p8 := eq_true p8
              replace q8 := eq_true q8
              go_wp2
              go_roundg k1
              case measure => have := HK1.out; omega
              case rel => exact ⟨(wrap64 (x5_1 + 1)), (by first | rfl | (simp; done) | (simp [*]; done) | (simp [wrap64]; done)), (by first | with_reducible exact H' | exact H' | (subst_vars; exact H')), ⟨by have := HK1.out; omega⟩, by repeat (first | exact Drawn0.refl _ | apply Drawn0.step)⟩
            · rw [if_neg c9] at H
              have c9b0 : decide ((bt a0 (ji4)) ≤ 57) = false := decide_eq_false c9
              clear c9
              obtain rfl := Option.some.inj H
              have p6 : 0 ≤ ((ji4) : Int) := of_decide_eq_true (by first | (with_reducible assumption) | assumption)
              have q6 : (ji4) < (a0.size : Int) := of_decide_eq_true (by first | (with_reducible assumption) | assumption)
              have hx6 := bt_at a0 (ji4)
              replace p6 := eq_true p6
              replace q6 := eq_true q6
              have p8 : 0 ≤ ((ji4) : Int) := of_decide_eq_true (by first | (with_reducible assumption) | assumption)
              have q8 : (ji4) < (a0.size : Int) := of_decide_eq_true (by first | (with_reducible assumption) | assumption)
              have hx8 := bt_at a0 (ji4)
              replace p8 := eq_true p8
              replace q8 := eq_true q8
              go_wp2
              go_ret
              exact ⟨by first | rfl | (simp; done) | (simp only [← hji4] <;> (first | rfl | simp)) | (simp [*]; done), by repeat (first | exact Drawn0.refl _ | apply Drawn0.step)⟩
          · rw [if_neg c7] at H
            have c7b0 : decide (48 ≤ (bt a0 (ji4))) = false := decide_eq_false c7
            clear c7
            obtain rfl := Option.some.inj H
            have p6 : 0 ≤ ((ji4) : Int) := of_decide_eq_true (by first | (with_reducible assumption) | assumption)
            have q6 : (ji4) < (a0.size : Int) := of_decide_eq_true (by first | (with_reducible assumption) | assumption)
            have hx6 := bt_at a0 (ji4)
            replace p6 := eq_true p6
            replace q6 := eq_true q6
            go_wp2
            go_ret
            exact ⟨by first | rfl | (simp; done) | (simp only [← hji4] <;> (first | rfl | simp)) | (simp [*]; done), by repeat (first | exact Drawn0.refl _ | apply Drawn0.step)⟩
        · rw [if_neg c5] at H
          exact absurd H (by simp)
      · rw [if_neg c3] at H
        have c3b0 : decide ((wrap64 (a1 + x5_1)) < (a0.size : Int)) = false := decide_eq_false c3
        clear c3
        obtain rfl := Option.some.inj H
        go_wp2
        go_ret
        exact ⟨by first | rfl | (simp; done) | (simp [*]; done), by repeat (first | exact Drawn0.refl _ | apply Drawn0.step)⟩
end Go.Proofs.Ytjdgjifacdnkgaa.X
end
section
namespace Go.Proofs.Ytjdgjifacdnkgaa.X
open Go.RowKit Go.Proofs.YtjdgjifacdnkgaaW.PrintWords Go.Proofs.YtjdgjifacdnkgaaW.PrintLast Go.Proofs.YtjdgjifacdnkgaaW.PrintMore
attribute [local go_sem] max2_int min2_int max_two min_two max_three min_three max_four min_four
set_option linter.unusedVariables false
set_option linter.unusedSimpArgs false
def sealringref05_small.l0 : Nat → ByteArray → Int → Int → Option (Int × Bool)
  | 0, _, _, _ => none
  | k + 1, x0, x4, x5 => if x5 < (x0.size : Int) then (if 0 ≤ x5 then (sealringref05_small.l0 k x0 (wrap64 ((wrap64 (10 * x4)) + (((bt x0 x5) - 48) % 256))) (wrap64 (x5 + 1))) else (none)) else (some (x4, decide (x4 ≤ 9007199254740991)))
def sealringref05_small.f (k : Nat) (a0 : ByteArray) : Option (Int × Bool) := if (a0.size : Int) > 16 then (some (0, false)) else (sealringref05_small.l0 k a0 0 0)
theorem sealringref05_small.mono_l : ∀ k, (∀ y0 y1 y2, LeO (sealringref05_small.l0 k y0 y1 y2) (sealringref05_small.l0 (k + 1) y0 y1 y2))
  | 0 => fun _ _ _ r h => by simp [sealringref05_small.l0] at h
  | k + 1 => by
    have ih0 := sealringref05_small.mono_l k
    · intro y0 y1 y2
      unfold sealringref05_small.l0
      repeat' first
      | (with_reducible exact ih0 _ _ _)
      | (with_reducible exact LeO.refl _)
      | (with_reducible exact LeO.none _)
      | (with_reducible refine LeO.ite ?_ ?_)
      | (with_reducible refine LeO.bind ?_ (fun _ => ?_))
      | exact ih0 _ _ _
      | exact LeO.none _
      | refine LeO.ite ?_ ?_
      | refine LeO.bind ?_ (fun _ => ?_)
theorem sealringref05_small.mono : ∀ a0 k, LeO (sealringref05_small.f k a0) (sealringref05_small.f (k + 1) a0) := by
  intro a0 k
  have ih0 := sealringref05_small.mono_l k
  unfold sealringref05_small.f
  repeat' first
      | (with_reducible exact ih0 _ _ _)
      | (with_reducible exact LeO.refl _)
      | (with_reducible exact LeO.none _)
      | (with_reducible refine LeO.ite ?_ ?_)
      | (with_reducible refine LeO.bind ?_ (fun _ => ?_))
      | exact ih0 _ _ _
      | exact LeO.none _
      | refine LeO.ite ?_ ?_
      | refine LeO.bind ?_ (fun _ => ?_)
set_option maxHeartbeats 8000000 in
set_option maxRecDepth 100000 in
theorem sealringref05_small.calls (k : Nat) (a0 : ByteArray) (r1 : Int) (r2 : Bool) (w : World) (h : sealringref05_small.f k a0 = some (r1, r2)) :
    Calls Try.prog 33 #[.string a0] w fun e w' => e = .returned (.tuple #[.int .i64 r1, .bool r2]) ∧ Drawn0 w w' := by
  have H : (if (a0.size : Int) > 16 then (some (0, false)) else (sealringref05_small.l0 k a0 0 0)) = some (r1, r2) := h
  clear h
  by_cases c2 : (a0.size : Int) > 16
  · rw [if_pos c2] at H
    have c2b0 : decide (16 < (a0.size : Int)) = true := decide_eq_true c2
    have c2b1 : decide (16 < a0.size) = true := decide_eq_true (by omega)
    clear c2
    simp only [Option.some.injEq, Prod.mk.injEq] at H
    obtain ⟨rfl, rfl⟩ := H
    go_enter Try.func33, Try.ntmps33
    go_wp2
    go_ret2
    exact ⟨by first | rfl | (simp; done) | (simp [*]; done), by repeat (first | exact Drawn0.refl _ | apply Drawn0.step)⟩
  · rw [if_neg c2] at H
    have c2b0 : decide (16 < (a0.size : Int)) = false := decide_eq_false c2
    have c2b1 : decide (16 < a0.size) = false := decide_eq_false (by omega)
    clear c2
    have H' := Aside0.mk H
    clear H
    go_enter Try.func33, Try.ntmps33
    go_wp2
    go_loopg [4, 5] k (fun kq v4 v5 w' => ∃ (x4_1 : Int) (x5_1 : Int), v4 = .int .i64 x4_1 ∧ v5 = .int .i64 x5_1 ∧ Aside0 (sealringref05_small.l0 kq a0 x4_1 x5_1 = some (r1, r2)) ∧ Aside0 (kq ≤ k) ∧ Drawn0 w w')
    case atStart => exact ⟨(0), (0), (by first | rfl | (simp; done) | (simp [*]; done) | (simp [wrap64]; done)), (by first | rfl | (simp; done) | (simp [*]; done) | (simp [wrap64]; done)), (by first | with_reducible exact H' | exact H' | (subst_vars; exact H')), ⟨Nat.le_refl _⟩, by repeat (first | exact Drawn0.refl _ | apply Drawn0.step)⟩
    case round =>
      clear H'
      try clear c2
      try clear c2b0
      try clear c2b1
      try clear p2
      obtain ⟨x4_1, x5_1, rfl, rfl, HA, HK1, ⟨m1, rfl⟩⟩ := hrel
      cases gk with
      | zero => exact absurd HA.out (by simp [sealringref05_small.l0])
      | succ k1 =>
        have H := HA.out
        clear HA
        simp only [sealringref05_small.l0] at H
        by_cases c3 : x5_1 < (a0.size : Int)
        · rw [if_pos c3] at H
          have c3b0 : decide (x5_1 < (a0.size : Int)) = true := decide_eq_true c3
          clear c3
          by_cases c4 : 0 ≤ x5_1
          · rw [if_pos c4] at H
            have c4b0 : decide (0 ≤ x5_1) = true := decide_eq_true c4
            clear c4
            have H' := Aside0.mk H
            clear H
            have p5 : 0 ≤ (x5_1 : Int) := of_decide_eq_true (by first | (with_reducible assumption) | assumption)
            have q5 : x5_1 < (a0.size : Int) := of_decide_eq_true (by first | (with_reducible assumption) | assumption)
            have hx5 := bt_at a0 x5_1
            replace p5 := eq_true p5
            replace q5 := eq_true q5
            go_wp2
            go_roundg k1
            case measure => have := HK1.out; omega
            case rel => exact ⟨(wrap64 ((wrap64 (10 * x4_1)) + (((bt a0 x5_1) - 48) % 256))), (wrap64 (x5_1 + 1)), (by first | rfl | (simp; done) | (simp [*]; done) | (simp [wrap64]; done)), (by first | rfl | (simp; done) | (simp [*]; done) | (simp [wrap64]; done)), (by first | with_reducible exact H' | exact H' | (subst_vars; exact H')), ⟨by have := HK1.out; omega⟩, by repeat (first | exact Drawn0.refl _ | apply Drawn0.step)⟩
          · rw [if_neg c4] at H
            exact absurd H (by simp)
        · rw [if_neg c3] at H
          have c3b0 : decide (x5_1 < (a0.size : Int)) = false := decide_eq_false c3
          clear c3
          simp only [Option.some.injEq, Prod.mk.injEq] at H
          obtain ⟨rfl, rfl⟩ := H
          go_wp2
          go_ret2
          exact ⟨by first | rfl | (simp; done) | (simp [*]; done), by repeat (first | exact Drawn0.refl _ | apply Drawn0.step)⟩
end Go.Proofs.Ytjdgjifacdnkgaa.X
end
