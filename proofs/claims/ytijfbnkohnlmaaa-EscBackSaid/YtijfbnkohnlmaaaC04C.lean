import Derived.Test.YtijfbnkohnlmaaaC04C3
import Derived.Test.YtijfbnkohnlmaaaRows
import Derived.WalkKit
import Derived.ProofKit
import Derived.OpenShut
import Derived.ShutString
import Derived.ChangeOld
import Derived.Below
import Derived.SizedLaws
section
namespace Go.Proofs.Ytijfbnkohnlmaaa.X
open Go.RowKit Go.Proofs.YtijfbnkohnlmaaaW.PrintWords Go.Proofs.YtijfbnkohnlmaaaW.PrintLast Go.Proofs.YtijfbnkohnlmaaaW.PrintMore
attribute [local go_sem] max2_int min2_int max_two min_two max_three min_three max_four min_four
set_option linter.unusedVariables false
set_option linter.unusedSimpArgs false
def sealringref04_one.f (k : Nat) (a0 : Int) : Option (ByteArray) := (sealringref04_small.f k a0).bind fun t265 => (if t265 = 0 then (if a0 < 32 then ((some (([92, 117] : List Int) : List Int)).bind fun y270 => ((sealringref01_Hex.f k (strOfNums (([0, (a0) % 256] : List Int)))).bind fun t276 => (if (strOfNums y270).size + t276.size ≤ 9223372036854775807 then (some ((strOfNums y270) ++ t276)) else (none)))) else ((sealringref03_Form.f a0).bind fun t277 => (some t277))) else ((sealringref04_small.f k a0).bind fun t266 => (some (strOfNums (([92, t266] : List Int))))))
theorem sealringref04_one.mono : ∀ a0 k, LeO (sealringref04_one.f k a0) (sealringref04_one.f (k + 1) a0) := by
  intro a0 k
  unfold sealringref04_one.f
  repeat' first
      | (with_reducible exact sealringref01_Hex.mono _ _)
      | (with_reducible exact sealringref04_small.mono _ _)
      | (with_reducible exact LeO.refl _)
      | (with_reducible exact LeO.none _)
      | (with_reducible refine LeO.ite ?_ ?_)
      | (with_reducible refine LeO.bind ?_ (fun _ => ?_))
      | exact sealringref01_Hex.mono _ _
      | exact sealringref04_small.mono _ _
      | exact LeO.none _
      | refine LeO.ite ?_ ?_
      | refine LeO.bind ?_ (fun _ => ?_)
def sealringref04_one.T4 : Bool × List (List Nat × List Nat) := (true, [([], []), ([0], [0]), ([], []), ([2], [2]), ([3], [3]), ([4], [4]), ([5], [5]), ([1, 6], [1, 6]), ([7, 6, 0, 1, 2, 3, 4, 5, 6, 7], [7])])
def sealringref04_one.B4 : List Nat := [0, 1, 0, 4, 12, 28, 60, 127, 255]
theorem sealringref04_one.tab4 : rtab .any (opsOf Try.f37 4) = sealringref04_one.T4 := by kernel_rfl
theorem sealringref04_one.bits4 : waitsOk sealringref04_one.T4.2 sealringref04_one.B4 = true := by kernel_rfl
set_option maxHeartbeats 8000000 in
set_option maxRecDepth 100000 in
theorem sealringref04_one.calls (k : Nat) (a0 : Int) (r : ByteArray) (w : World) (h : sealringref04_one.f k a0 = some r) :
    Calls Try.prog 37 #[.int .i64 a0] w fun e w' => e = .returned (.string r) ∧ Below w.heap.size w w' := by
  have HB := Aside0.mk (Below.refl w.heap.size w)
  have H : ((sealringref04_small.f k a0).bind fun t265 => (if t265 = 0 then (if a0 < 32 then ((some (([92, 117] : List Int) : List Int)).bind fun y270 => ((sealringref01_Hex.f k (strOfNums (([0, (a0) % 256] : List Int)))).bind fun t276 => (if (strOfNums y270).size + t276.size ≤ 9223372036854775807 then (some ((strOfNums y270) ++ t276)) else (none)))) else ((sealringref03_Form.f a0).bind fun t277 => (some t277))) else ((sealringref04_small.f k a0).bind fun t266 => (some (strOfNums (([92, t266] : List Int))))))) = some r := h
  clear h
  replace H := Option.bind_eq_some_iff.mp H
  obtain ⟨t265, A20, H⟩ := H
  replace H : (if t265 = 0 then (if a0 < 32 then ((some (([92, 117] : List Int) : List Int)).bind fun y270 => ((sealringref01_Hex.f k (strOfNums (([0, (a0) % 256] : List Int)))).bind fun t276 => (if (strOfNums y270).size + t276.size ≤ 9223372036854775807 then (some ((strOfNums y270) ++ t276)) else (none)))) else ((sealringref03_Form.f a0).bind fun t277 => (some t277))) else ((sealringref04_small.f k a0).bind fun t266 => (some (strOfNums (([92, t266] : List Int)))))) = some r := H
  have A2 := Aside0.mk A20
  clear A20
  by_cases c3 : t265 = 0
  · rw [if_pos c3] at H
    have c3b0 : (t265 == 0) = true := beq_iff_eq.mpr c3
    have c3b1 : (t265 != 0) = false := bne_eq_false_iff_eq.mpr c3
    clear c3
    by_cases c4 : a0 < 32
    · rw [if_pos c4] at H
      have c4b0 : decide (a0 < 32) = true := decide_eq_true c4
      clear c4
      obtain ⟨y270, hy270⟩ : ∃ y_ : List Int, y_ = (([92, 117] : List Int)) := ⟨_, rfl⟩
      replace H : ((sealringref01_Hex.f k (strOfNums (([0, (a0) % 256] : List Int)))).bind fun t276 => (if (strOfNums y270).size + t276.size ≤ 9223372036854775807 then (some ((strOfNums y270) ++ t276)) else (none))) = some r := by first | (rw [hy270]; with_reducible exact H) | (have H2_ := (Option.bind_some _ _).symm.trans H; rw [hy270]; with_reducible exact H2_) | (have H2_ := (Option.bind_some _ _).symm.trans H; with_reducible exact H2_) | with_reducible exact H | (rw [hy270]; exact H) | exact H
      have Ny270 := Aside0.mk hy270
      clear hy270
      obtain ⟨y273, hy273⟩ : ∃ y_ : List Int, y_ = (([0, (a0) % 256] : List Int)) := ⟨_, rfl⟩
      replace H : ((sealringref01_Hex.f k (strOfNums y273)).bind fun t276 => (if (strOfNums y270).size + t276.size ≤ 9223372036854775807 then (some ((strOfNums y270) ++ t276)) else (none))) = some r := by first | (rw [hy273]; with_reducible exact H) | (have H2_ := (Option.bind_some _ _).symm.trans H; rw [hy273]; with_reducible exact H2_) | (have H2_ := (Option.bind_some _ _).symm.trans H; with_reducible exact H2_) | with_reducible exact H | (rw [hy273]; exact H) | exact H
      have Ny273 := Aside0.mk hy273
      clear hy273
      replace H := Option.bind_eq_some_iff.mp H
      obtain ⟨t276, A50, H⟩ := H
      replace H : (if (strOfNums y270).size + t276.size ≤ 9223372036854775807 then (some ((strOfNums y270) ++ t276)) else (none)) = some r := H
      have A5 := Aside0.mk A50
      clear A50
      by_cases c6 : (strOfNums y270).size + t276.size ≤ 9223372036854775807
      · rw [if_pos c6] at H
        have c6b0 := eq_true c6
        have c6b1 : decide ((strOfNums y270).size + t276.size ≤ 9223372036854775807) = true := decide_eq_true c6
        try have c6b2 : (9223372036854775807 < (strOfNums y270).size + t276.size) = False := eq_false (Nat.not_lt.2 c6)
        obtain rfl := Option.some.inj H
        go_enter Try.func37, Try.ntmps37
        try go_wp2_with (first | ((with_reducible refine gate_callee (f := 42) rfl ?_); refine goesL_ (some 4) rfl rfl Try.func42 (by kernel_rfl) rfl #[.int .i64 a0] rfl (by (try simp only [List.map_toArray, List.map_cons, List.map_nil]); first | done | rfl | (simp only [List.length_drop, List.length_take]; rfl)) ?_; (with_reducible refine (sealringref04_small.calls k a0 t265 _ A2.out).mono ?_); rintro e w' ⟨rfl, ⟨nd, rfl⟩⟩; refine ⟨_, rfl, ?_⟩))
        have n0_ := Aside0.mk (below_drew1 (pw_below_drewN HB.out nd))
        clear HB
        have HB := n0_
        clear n0_
        refine start_ (n := 9) (S := fun w' => True) (ds := []) #[false, false, false, false, false, false, false, false, false] (by kernel_rfl) rfl rfl trivial (fun hHeld => ?_); refine with_tabW sealringref04_one.tab4 sealringref04_one.bits4 (fun HT_ HW_ => ?_)
        generalize (w.drewN nd).drew = w7 at HB hHeld ⊢
        refine pure_ (i := 2) (N := some 14) (v := ?_) (a' := ?_) #[false, false, true, false, false, false, false, false, false] rfl rfl (any_of HT_.out (by kernel_rfl)) (fun _ _ _ h => h) (Or.inl ⟨by rfl, ?_⟩) ?_ ?_
        rotate_left
        · intro w'
          go_simp
          with_reducible rfl
        rotate_left
        · simp only [Act.put, List.setIfInBounds_toArray, List.set_cons_zero, List.set_cons_succ, i64_w, i32_w]
          rfl
        refine pure_ (i := 3) (N := some 15) (v := ?_) (a' := ?_) #[false, false, true, true, false, false, false, false, false] rfl rfl (any_of HT_.out (by kernel_rfl)) (fun _ _ _ h => h) (Or.inl ⟨by rfl, ?_⟩) ?_ ?_
        rotate_left
        · intro w'
          go_simp
          with_reducible rfl
        rotate_left
        · simp only [Act.put, List.setIfInBounds_toArray, List.set_cons_zero, List.set_cons_succ, i64_w, i32_w]
          rfl
        refine join_ (σ := Value × Value) 2 #[true, true, true, true, true, true, true, false, false] (fun s_ => [(12, s_.1), (13, .string (strOfNums y270)), (16, s_.2), (17, .string (strOfNums y273)), (18, .string t276)]) (fun s_ w' => (Kd.R (Kd.int .u8) 5 w' w.heap.size (fun k_ => some k_ ≠ (s_.2 : Value).ownBlock) s_.1 y270) ∧ (Kd.R (Kd.int .u8) 5 w' w.heap.size (fun k_ => some k_ ≠ (s_.1 : Value).ownBlock) s_.2 y273) ∧ (Below w.heap.size w w')) ?_ ?_
        rotate_left
        · intro hJ0_1_4_5_6
          refine join_ (σ := Value × Value) 3 #[true, true, true, true, true, true, false, false, false] (fun s_ => [(12, s_.1), (13, .string (strOfNums y270)), (16, s_.2), (17, .string (strOfNums y273))]) (fun s_ w' => (Kd.R (Kd.int .u8) 5 w' w.heap.size (fun k_ => some k_ ≠ (s_.2 : Value).ownBlock) s_.1 y270) ∧ (Kd.R (Kd.int .u8) 5 w' w.heap.size (fun k_ => some k_ ≠ (s_.1 : Value).ownBlock) s_.2 y273) ∧ (Below w.heap.size w w')) ?_ ?_
          rotate_left
          · intro hJ0_1_4_5
            refine join_ (σ := Value × Value) 3 #[true, false, true, true, true, true, true, false, false] (fun s_ => [(12, s_.1), (16, s_.2), (17, .string (strOfNums y273)), (18, .string t276)]) (fun s_ w' => (Kd.R (Kd.int .u8) 5 w' w.heap.size (fun k_ => some k_ ≠ (s_.2 : Value).ownBlock) s_.1 y270) ∧ (Kd.R (Kd.int .u8) 5 w' w.heap.size (fun k_ => some k_ ≠ (s_.1 : Value).ownBlock) s_.2 y273) ∧ (Below w.heap.size w w')) ?_ ?_
            rotate_left
            · intro hJ0_4_5_6
              refine join_ (σ := Value × Value) 4 #[true, true, true, true, true, false, false, false, false] (fun s_ => [(12, s_.1), (13, .string (strOfNums y270)), (16, s_.2)]) (fun s_ w' => (Kd.R (Kd.int .u8) 5 w' w.heap.size (fun k_ => some k_ ≠ (s_.2 : Value).ownBlock) s_.1 y270) ∧ (Kd.R (Kd.int .u8) 5 w' w.heap.size (fun k_ => some k_ ≠ (s_.1 : Value).ownBlock) s_.2 y273) ∧ (Below w.heap.size w w')) ?_ ?_
              rotate_left
              · intro hJ0_1_4
                refine join_ (σ := Value × Value) 4 #[true, false, true, true, true, true, false, false, false] (fun s_ => [(12, s_.1), (16, s_.2), (17, .string (strOfNums y273))]) (fun s_ w' => (Kd.R (Kd.int .u8) 5 w' w.heap.size (fun k_ => some k_ ≠ (s_.2 : Value).ownBlock) s_.1 y270) ∧ (Kd.R (Kd.int .u8) 5 w' w.heap.size (fun k_ => some k_ ≠ (s_.1 : Value).ownBlock) s_.2 y273) ∧ (Below w.heap.size w w')) ?_ ?_
                rotate_left
                · intro hJ0_4_5
                  refine join_ (σ := Value) 4 #[false, false, true, true, true, true, true, false, false] (fun s_ => [(16, s_), (17, .string (strOfNums y273)), (18, .string t276)]) (fun s_ w' => (Kd.R (Kd.int .u8) 5 w' w.heap.size (fun _ => True) s_ y273) ∧ (Below w.heap.size w w')) ?_ ?_
                  rotate_left
                  · intro hJ4_5_6
                    refine join_ (σ := Value) 5 #[true, true, true, true, false, false, false, false, false] (fun s_ => [(12, s_), (13, .string (strOfNums y270))]) (fun s_ w' => (Kd.R (Kd.int .u8) 5 w' w.heap.size (fun _ => True) s_ y270) ∧ (Below w.heap.size w w')) ?_ ?_
                    rotate_left
                    · intro hJ0_1
                      refine join_ (σ := Value × Value) 5 #[true, false, true, true, true, false, false, false, false] (fun s_ => [(12, s_.1), (16, s_.2)]) (fun s_ w' => (Kd.R (Kd.int .u8) 5 w' w.heap.size (fun k_ => some k_ ≠ (s_.2 : Value).ownBlock) s_.1 y270) ∧ (Kd.R (Kd.int .u8) 5 w' w.heap.size (fun k_ => some k_ ≠ (s_.1 : Value).ownBlock) s_.2 y273) ∧ (Below w.heap.size w w')) ?_ ?_
                      rotate_left
                      · intro hJ0_4
                        refine join_ (σ := Value) 5 #[false, false, true, true, true, true, false, false, false] (fun s_ => [(16, s_), (17, .string (strOfNums y273))]) (fun s_ w' => (Kd.R (Kd.int .u8) 5 w' w.heap.size (fun _ => True) s_ y273) ∧ (Below w.heap.size w w')) ?_ ?_
                        rotate_left
                        · intro hJ4_5
                          refine join_ (σ := Value) 6 #[true, false, true, true, false, false, false, false, false] (fun s_ => [(12, s_)]) (fun s_ w' => (Kd.R (Kd.int .u8) 5 w' w.heap.size (fun _ => True) s_ y270) ∧ (Below w.heap.size w w')) ?_ ?_
                          rotate_left
                          · intro hJ0
                            refine join_ (σ := Value) 6 #[false, false, true, true, true, false, false, false, false] (fun s_ => [(16, s_)]) (fun s_ w' => (Kd.R (Kd.int .u8) 5 w' w.heap.size (fun _ => True) s_ y273) ∧ (Below w.heap.size w w')) ?_ ?_
                            rotate_left
                            · intro hJ4
                              refine two_ (i := 0) (j := 4) (Ni := some 12) (Nj := some 16) #[true, false, true, true, false, false, false, false, false] #[false, false, true, true, true, false, false, false, false] rfl rfl rfl rfl (two_of HT_.out (by kernel_rfl)) (by decide) (by decide) (fun K hK => ?_) (fun K hK => ?_)
                              · skip
                                refine Kd.R_lit_step (Kd.int .u8) _ 5 ?hg (N := 12) ?hd (xs := ([92, 117] : List Int)) (inner := [.int .u8 92, .int .u8 117]) (ok := fun _ => True) (okp := fun _ => True) ?hr ?hp (fun _ hk => hk) trivial (Below.refl _ _) (Nat.le_refl _) (by simp) ?_; (case hd => rfl); (case hg => rfl); (case hr => first | (go_simp; done) | (go_simp; rfl)); (case hp => exact (Reps.one (show Kd.M (Kd.int .u8) _ _ _ 92 [.int .u8 92] from rfl) (Reps.one (show Kd.M (Kd.int .u8) _ _ _ 117 [.int .u8 117] from rfl) (Reps.none _ _))))
                                intro v271 w8 ho9 hb hg_ hnew_
                                clear hg_ hnew_
                                (first | rw [← Ny270.out] at ho9 | (simp only [Int.reduceToNat] at ho9; rw [← Ny270.out] at ho9))
                                have n0_ := Aside0.mk (Kd.R_lower ho9 (below_size (by repeat (first | (with_reducible first | exact HB.out | apply below_alloc | apply pw_below_drewN | apply below_drew1) | exact HB.out))))
                                have n1_ := Aside0.mk (below_step (by repeat (first | (with_reducible first | exact HB.out | apply below_alloc | apply pw_below_drewN | apply below_drew1) | exact HB.out)) hb)
                                clear HB
                                have HO272 := n0_
                                have HB := n1_
                                clear n0_ n1_
                                clear hb ho9
                                refine hK.out _ _ trivial (fun hHeld => ?_)
                                clear hK K
                                refine norm_ (a' := ?_) ?_ ?_
                                rotate_left
                                · show Act.put _ (some 12) _ = _
                                  simp only [Act.put, List.setIfInBounds_toArray, List.set_cons_zero, List.set_cons_succ, i64_w, i32_w]
                                  rfl
                                exact norm_ (by first | (simp only [putAll, Act.put, List.setIfInBounds_toArray, List.set_cons_zero, List.set_cons_succ]; done) | (simp only [putAll, Act.put, List.setIfInBounds_toArray, List.set_cons_zero, List.set_cons_succ]; rfl)) (hJ0 (v271) _ ⟨(by (with_reducible repeat (first | apply Kd.R_alloc | apply Kd.R_drewN | apply Kd.R_drew)); exact HO272.out), (by repeat (first | (with_reducible first | exact HB.out | apply below_alloc | apply pw_below_drewN | apply below_drew1) | exact HB.out))⟩)
                              · skip
                                refine Kd.R_lit_step (Kd.int .u8) _ 5 ?hg (N := 16) ?hd (xs := ([0, (a0) % 256] : List Int)) (inner := [.int .u8 0, .int .u8 ((a0) % 256)]) (ok := fun _ => True) (okp := fun _ => True) ?hr ?hp (fun _ hk => hk) trivial (Below.refl _ _) (Nat.le_refl _) (by simp) ?_; (case hd => rfl); (case hg => rfl); (case hr => first | (go_simp; done) | (go_simp; rfl)); (case hp => exact (Reps.one (show Kd.M (Kd.int .u8) _ _ _ 0 [.int .u8 0] from rfl) (Reps.one (show Kd.M (Kd.int .u8) _ _ _ ((a0) % 256) [.int .u8 ((a0) % 256)] from rfl) (Reps.none _ _))))
                                intro v274 w8 ho9 hb hg_ hnew_
                                clear hg_ hnew_
                                (first | rw [← Ny273.out] at ho9 | (simp only [Int.reduceToNat] at ho9; rw [← Ny273.out] at ho9))
                                have n0_ := Aside0.mk (Kd.R_lower ho9 (below_size (by repeat (first | (with_reducible first | exact HB.out | apply below_alloc | apply pw_below_drewN | apply below_drew1) | exact HB.out))))
                                have n1_ := Aside0.mk (below_step (by repeat (first | (with_reducible first | exact HB.out | apply below_alloc | apply pw_below_drewN | apply below_drew1) | exact HB.out)) hb)
                                clear HB
                                have HO275 := n0_
                                have HB := n1_
                                clear n0_ n1_
                                clear hb ho9
                                refine hK.out _ _ trivial (fun hHeld => ?_)
                                clear hK K
                                refine norm_ (a' := ?_) ?_ ?_
                                rotate_left
                                · show Act.put _ (some 16) _ = _
                                  simp only [Act.put, List.setIfInBounds_toArray, List.set_cons_zero, List.set_cons_succ, i64_w, i32_w]
                                  rfl
                                exact norm_ (by first | (simp only [putAll, Act.put, List.setIfInBounds_toArray, List.set_cons_zero, List.set_cons_succ]; done) | (simp only [putAll, Act.put, List.setIfInBounds_toArray, List.set_cons_zero, List.set_cons_succ]; rfl)) (hJ4 (v274) _ ⟨(by (with_reducible repeat (first | apply Kd.R_alloc | apply Kd.R_drewN | apply Kd.R_drew)); exact HO275.out), (by repeat (first | (with_reducible first | exact HB.out | apply below_alloc | apply pw_below_drewN | apply below_drew1) | exact HB.out))⟩)
                            · skip
                              rintro v274 w10 ⟨h0_, h1_⟩
                              have n0_ : Aside0 (Kd.R (Kd.int .u8) 5 w10 w.heap.size (fun _ => True) v274 y273) := ⟨h0_⟩
                              have n1_ : Aside0 (Below w.heap.size w w10) := ⟨h1_⟩
                              clear HB
                              clear h0_ h1_
                              have HO275 := n0_
                              have HB := n1_
                              clear n0_ n1_
                              have hHeld := trivial
                              refine norm_ (a' := ?_) ?_ ?_
                              rotate_left
                              · simp only [putAll, Act.put, List.setIfInBounds_toArray, List.set_cons_zero, List.set_cons_succ]
                                rfl
                              refine two_ (i := 0) (j := 5) (Ni := some 12) (Nj := some 17) #[true, false, true, true, true, false, false, false, false] #[false, false, true, true, true, true, false, false, false] rfl rfl rfl rfl (two_of HT_.out (by kernel_rfl)) (by decide) (by decide) (fun K hK => ?_) (fun K hK => ?_)
                              · skip
                                refine Kd.R_lit_step (Kd.int .u8) _ 5 ?hg (N := 12) ?hd (xs := ([92, 117] : List Int)) (inner := [.int .u8 92, .int .u8 117]) (ok := fun _ => True) (okp := fun _ => True) ?hr ?hp (fun _ hk => hk) trivial (Below.refl _ _) (Nat.le_refl _) (by simp) ?_; (case hd => rfl); (case hg => rfl); (case hr => first | (go_simp; done) | (go_simp; rfl)); (case hp => exact (Reps.one (show Kd.M (Kd.int .u8) _ _ _ 92 [.int .u8 92] from rfl) (Reps.one (show Kd.M (Kd.int .u8) _ _ _ 117 [.int .u8 117] from rfl) (Reps.none _ _))))
                                intro v271 w11 ho12 hb hg_ hnew_
                                clear hg_ hnew_
                                (first | rw [← Ny270.out] at ho12 | (simp only [Int.reduceToNat] at ho12; rw [← Ny270.out] at ho12))
                                have n0_ := Aside0.mk (Kd.R_elder' (by (with_reducible repeat (first | apply Kd.R_alloc | apply Kd.R_drewN | apply Kd.R_drew)); exact HO275.out) (Kd.R_base ho12) hb)
                                have n1_ := Aside0.mk (Kd.R_lower (Kd.R_new' ho12 (Kd.R_lt (by (with_reducible repeat (first | apply Kd.R_alloc | apply Kd.R_drewN | apply Kd.R_drew)); exact HO275.out))) (below_size (by repeat (first | (with_reducible first | exact HB.out | apply below_alloc | apply pw_below_drewN | apply below_drew1) | exact HB.out))))
                                have n2_ := Aside0.mk (below_step (by repeat (first | (with_reducible first | exact HB.out | apply below_alloc | apply pw_below_drewN | apply below_drew1) | exact HB.out)) hb)
                                clear HO275
                                clear HB
                                have HO275 := n0_
                                have HO272 := n1_
                                have HB := n2_
                                clear n0_ n1_ n2_
                                clear hb ho12
                                refine hK.out _ _ trivial (fun hHeld => ?_)
                                clear hK K
                                refine norm_ (a' := ?_) ?_ ?_
                                rotate_left
                                · show Act.put _ (some 12) _ = _
                                  simp only [Act.put, List.setIfInBounds_toArray, List.set_cons_zero, List.set_cons_succ, i64_w, i32_w]
                                  rfl
                                exact norm_ (by first | (simp only [putAll, Act.put, List.setIfInBounds_toArray, List.set_cons_zero, List.set_cons_succ]; done) | (simp only [putAll, Act.put, List.setIfInBounds_toArray, List.set_cons_zero, List.set_cons_succ]; rfl)) (hJ0_4 (v271, v274) _ ⟨(by (with_reducible repeat (first | apply Kd.R_alloc | apply Kd.R_drewN | apply Kd.R_drew)); exact Kd.R_mono HO272.out (fun _ hk => hk.2)), (by (with_reducible repeat (first | apply Kd.R_alloc | apply Kd.R_drewN | apply Kd.R_drew)); exact Kd.R_mono HO275.out (fun _ hk => hk.2)), (by repeat (first | (with_reducible first | exact HB.out | apply below_alloc | apply pw_below_drewN | apply below_drew1) | exact HB.out))⟩)
                              · skip
                                have hcv11 := own_string (P := Try.prog) Try.underlying54 Try.underlying5 Try.underlying9 (Kd.own_of_R HO275.out)
                                refine value_ (w1 := ?_) (v := ?_) (by rfl) rfl ?_ ?_
                                rotate_left 2
                                · go_simp
                                  constructor
                                  · rfl
                                  · rfl
                                clear hcv11
                                refine hK.out _ _ trivial (fun hHeld => ?_)
                                clear hK K
                                refine norm_ (a' := ?_) ?_ ?_
                                rotate_left
                                · show Act.put _ (some 17) _ = _
                                  simp only [Act.put, List.setIfInBounds_toArray, List.set_cons_zero, List.set_cons_succ, i64_w, i32_w]
                                  rfl
                                exact norm_ (by first | (simp only [putAll, Act.put, List.setIfInBounds_toArray, List.set_cons_zero, List.set_cons_succ]; done) | (simp only [putAll, Act.put, List.setIfInBounds_toArray, List.set_cons_zero, List.set_cons_succ]; rfl)) (hJ4_5 (v274) _ ⟨(by (with_reducible repeat (first | apply Kd.R_alloc | apply Kd.R_drewN | apply Kd.R_drew)); exact HO275.out), (by repeat (first | (with_reducible first | exact HB.out | apply below_alloc | apply pw_below_drewN | apply below_drew1) | exact HB.out))⟩)
                          · skip
                            rintro v271 w10 ⟨h0_, h1_⟩
                            have n0_ : Aside0 (Kd.R (Kd.int .u8) 5 w10 w.heap.size (fun _ => True) v271 y270) := ⟨h0_⟩
                            have n1_ : Aside0 (Below w.heap.size w w10) := ⟨h1_⟩
                            clear HB
                            clear h0_ h1_
                            have HO272 := n0_
                            have HB := n1_
                            clear n0_ n1_
                            have hHeld := trivial
                            refine norm_ (a' := ?_) ?_ ?_
                            rotate_left
                            · simp only [putAll, Act.put, List.setIfInBounds_toArray, List.set_cons_zero, List.set_cons_succ]
                              rfl
                            refine two_ (i := 1) (j := 4) (Ni := some 13) (Nj := some 16) #[true, true, true, true, false, false, false, false, false] #[true, false, true, true, true, false, false, false, false] rfl rfl rfl rfl (two_of HT_.out (by kernel_rfl)) (by decide) (by decide) (fun K hK => ?_) (fun K hK => ?_)
                            · skip
                              have hcv11 := own_string (P := Try.prog) Try.underlying54 Try.underlying5 Try.underlying9 (Kd.own_of_R HO272.out)
                              refine value_ (w1 := ?_) (v := ?_) (by rfl) rfl ?_ ?_
                              rotate_left 2
                              · go_simp
                                constructor
                                · rfl
                                · rfl
                              clear hcv11
                              refine hK.out _ _ trivial (fun hHeld => ?_)
                              clear hK K
                              refine norm_ (a' := ?_) ?_ ?_
                              rotate_left
                              · show Act.put _ (some 13) _ = _
                                simp only [Act.put, List.setIfInBounds_toArray, List.set_cons_zero, List.set_cons_succ, i64_w, i32_w]
                                rfl
                              exact norm_ (by first | (simp only [putAll, Act.put, List.setIfInBounds_toArray, List.set_cons_zero, List.set_cons_succ]; done) | (simp only [putAll, Act.put, List.setIfInBounds_toArray, List.set_cons_zero, List.set_cons_succ]; rfl)) (hJ0_1 (v271) _ ⟨(by (with_reducible repeat (first | apply Kd.R_alloc | apply Kd.R_drewN | apply Kd.R_drew)); exact HO272.out), (by repeat (first | (with_reducible first | exact HB.out | apply below_alloc | apply pw_below_drewN | apply below_drew1) | exact HB.out))⟩)
                            · skip
                              refine Kd.R_lit_step (Kd.int .u8) _ 5 ?hg (N := 16) ?hd (xs := ([0, (a0) % 256] : List Int)) (inner := [.int .u8 0, .int .u8 ((a0) % 256)]) (ok := fun _ => True) (okp := fun _ => True) ?hr ?hp (fun _ hk => hk) trivial (Below.refl _ _) (Nat.le_refl _) (by simp) ?_; (case hd => rfl); (case hg => rfl); (case hr => first | (go_simp; done) | (go_simp; rfl)); (case hp => exact (Reps.one (show Kd.M (Kd.int .u8) _ _ _ 0 [.int .u8 0] from rfl) (Reps.one (show Kd.M (Kd.int .u8) _ _ _ ((a0) % 256) [.int .u8 ((a0) % 256)] from rfl) (Reps.none _ _))))
                              intro v274 w11 ho12 hb hg_ hnew_
                              clear hg_ hnew_
                              (first | rw [← Ny273.out] at ho12 | (simp only [Int.reduceToNat] at ho12; rw [← Ny273.out] at ho12))
                              have n0_ := Aside0.mk (Kd.R_elder' (by (with_reducible repeat (first | apply Kd.R_alloc | apply Kd.R_drewN | apply Kd.R_drew)); exact HO272.out) (Kd.R_base ho12) hb)
                              have n1_ := Aside0.mk (Kd.R_lower (Kd.R_new' ho12 (Kd.R_lt (by (with_reducible repeat (first | apply Kd.R_alloc | apply Kd.R_drewN | apply Kd.R_drew)); exact HO272.out))) (below_size (by repeat (first | (with_reducible first | exact HB.out | apply below_alloc | apply pw_below_drewN | apply below_drew1) | exact HB.out))))
                              have n2_ := Aside0.mk (below_step (by repeat (first | (with_reducible first | exact HB.out | apply below_alloc | apply pw_below_drewN | apply below_drew1) | exact HB.out)) hb)
                              clear HO272
                              clear HB
                              have HO272 := n0_
                              have HO275 := n1_
                              have HB := n2_
                              clear n0_ n1_ n2_
                              clear hb ho12
                              refine hK.out _ _ trivial (fun hHeld => ?_)
                              clear hK K
                              refine norm_ (a' := ?_) ?_ ?_
                              rotate_left
                              · show Act.put _ (some 16) _ = _
                                simp only [Act.put, List.setIfInBounds_toArray, List.set_cons_zero, List.set_cons_succ, i64_w, i32_w]
                                rfl
                              exact norm_ (by first | (simp only [putAll, Act.put, List.setIfInBounds_toArray, List.set_cons_zero, List.set_cons_succ]; done) | (simp only [putAll, Act.put, List.setIfInBounds_toArray, List.set_cons_zero, List.set_cons_succ]; rfl)) (hJ0_4 (v271, v274) _ ⟨(by (with_reducible repeat (first | apply Kd.R_alloc | apply Kd.R_drewN | apply Kd.R_drew)); exact Kd.R_mono HO272.out (fun _ hk => hk.2)), (by (with_reducible repeat (first | apply Kd.R_alloc | apply Kd.R_drewN | apply Kd.R_drew)); exact Kd.R_mono HO275.out (fun _ hk => hk.2)), (by repeat (first | (with_reducible first | exact HB.out | apply below_alloc | apply pw_below_drewN | apply below_drew1) | exact HB.out))⟩)
                        · skip
                          rintro v274 w11 ⟨h0_, h1_⟩
                          have n0_ : Aside0 (Kd.R (Kd.int .u8) 5 w11 w.heap.size (fun _ => True) v274 y273) := ⟨h0_⟩
                          have n1_ : Aside0 (Below w.heap.size w w11) := ⟨h1_⟩
                          clear HB
                          clear h0_ h1_
                          have HO275 := n0_
                          have HB := n1_
                          clear n0_ n1_
                          have hHeld := trivial
                          refine norm_ (a' := ?_) ?_ ?_
                          rotate_left
                          · simp only [putAll, Act.put, List.setIfInBounds_toArray, List.set_cons_zero, List.set_cons_succ]
                            rfl
                          refine two_ (i := 0) (j := 6) (Ni := some 12) (Nj := some 18) #[true, false, true, true, true, true, false, false, false] #[false, false, true, true, true, true, true, false, false] rfl rfl rfl rfl (two_of HT_.out (by kernel_rfl)) (by decide) (by decide) (fun K hK => ?_) (fun K hK => ?_)
                          · skip
                            refine Kd.R_lit_step (Kd.int .u8) _ 5 ?hg (N := 12) ?hd (xs := ([92, 117] : List Int)) (inner := [.int .u8 92, .int .u8 117]) (ok := fun _ => True) (okp := fun _ => True) ?hr ?hp (fun _ hk => hk) trivial (Below.refl _ _) (Nat.le_refl _) (by simp) ?_; (case hd => rfl); (case hg => rfl); (case hr => first | (go_simp; done) | (go_simp; rfl)); (case hp => exact (Reps.one (show Kd.M (Kd.int .u8) _ _ _ 92 [.int .u8 92] from rfl) (Reps.one (show Kd.M (Kd.int .u8) _ _ _ 117 [.int .u8 117] from rfl) (Reps.none _ _))))
                            intro v271 w12 ho13 hb hg_ hnew_
                            clear hg_ hnew_
                            (first | rw [← Ny270.out] at ho13 | (simp only [Int.reduceToNat] at ho13; rw [← Ny270.out] at ho13))
                            have n0_ := Aside0.mk (Kd.R_elder' (by (with_reducible repeat (first | apply Kd.R_alloc | apply Kd.R_drewN | apply Kd.R_drew)); exact HO275.out) (Kd.R_base ho13) hb)
                            have n1_ := Aside0.mk (Kd.R_lower (Kd.R_new' ho13 (Kd.R_lt (by (with_reducible repeat (first | apply Kd.R_alloc | apply Kd.R_drewN | apply Kd.R_drew)); exact HO275.out))) (below_size (by repeat (first | (with_reducible first | exact HB.out | apply below_alloc | apply pw_below_drewN | apply below_drew1) | exact HB.out))))
                            have n2_ := Aside0.mk (below_step (by repeat (first | (with_reducible first | exact HB.out | apply below_alloc | apply pw_below_drewN | apply below_drew1) | exact HB.out)) hb)
                            clear HO275
                            clear HB
                            have HO275 := n0_
                            have HO272 := n1_
                            have HB := n2_
                            clear n0_ n1_ n2_
                            clear hb ho13
                            refine hK.out _ _ trivial (fun hHeld => ?_)
                            clear hK K
                            refine norm_ (a' := ?_) ?_ ?_
                            rotate_left
                            · show Act.put _ (some 12) _ = _
                              simp only [Act.put, List.setIfInBounds_toArray, List.set_cons_zero, List.set_cons_succ, i64_w, i32_w]
                              rfl
                            exact norm_ (by first | (simp only [putAll, Act.put, List.setIfInBounds_toArray, List.set_cons_zero, List.set_cons_succ]; done) | (simp only [putAll, Act.put, List.setIfInBounds_toArray, List.set_cons_zero, List.set_cons_succ]; rfl)) (hJ0_4_5 (v271, v274) _ ⟨(by (with_reducible repeat (first | apply Kd.R_alloc | apply Kd.R_drewN | apply Kd.R_drew)); exact Kd.R_mono HO272.out (fun _ hk => hk.2)), (by (with_reducible repeat (first | apply Kd.R_alloc | apply Kd.R_drewN | apply Kd.R_drew)); exact Kd.R_mono HO275.out (fun _ hk => hk.2)), (by repeat (first | (with_reducible first | exact HB.out | apply below_alloc | apply pw_below_drewN | apply below_drew1) | exact HB.out))⟩)
                          · skip
                            refine goes_ Try.func45 (by kernel_rfl) rfl #[.string (strOfNums y273)] (by rfl) rfl rfl (by (try simp only [List.map_toArray, List.map_cons, List.map_nil]); first | done | rfl | (simp only [List.length_drop, List.length_take]; rfl)) ?_
                            with_reducible refine (sealringref01_Hex.calls k (strOfNums y273) t276 _ A5.out).mono ?_
                            rintro e w12 ⟨rfl, hb⟩
                            refine ⟨_, rfl, ?_⟩
                            have n0_ := Aside0.mk (Kd.R_below (by (with_reducible repeat (first | apply Kd.R_alloc | apply Kd.R_drewN | apply Kd.R_drew)); exact HO275.out) hb)
                            have n1_ := Aside0.mk (below_step (by repeat (first | (with_reducible first | exact HB.out | apply below_alloc | apply pw_below_drewN | apply below_drew1) | exact HB.out)) hb)
                            clear HO275
                            clear HB
                            have HO275 := n0_
                            have HB := n1_
                            clear n0_ n1_
                            (try clear hb)
                            (try clear hb2)
                            (try clear hk)
                            (try clear hi)
                            refine hK.out _ _ trivial (fun hHeld => ?_)
                            clear hK K
                            refine norm_ (a' := ?_) ?_ ?_
                            rotate_left
                            · show Act.put _ (some 18) _ = _
                              simp only [Act.put, List.setIfInBounds_toArray, List.set_cons_zero, List.set_cons_succ, i64_w, i32_w]
                              rfl
                            exact norm_ (by first | (simp only [putAll, Act.put, List.setIfInBounds_toArray, List.set_cons_zero, List.set_cons_succ]; done) | (simp only [putAll, Act.put, List.setIfInBounds_toArray, List.set_cons_zero, List.set_cons_succ]; rfl)) (hJ4_5_6 (v274) _ ⟨(by (with_reducible repeat (first | apply Kd.R_alloc | apply Kd.R_drewN | apply Kd.R_drew)); exact HO275.out), (by repeat (first | (with_reducible first | exact HB.out | apply below_alloc | apply pw_below_drewN | apply below_drew1) | exact HB.out))⟩)
                      · skip
                        rintro ⟨v271, v274⟩ w12 ⟨h0_, h1_, h2_⟩
                        have n0_ : Aside0 (Kd.R (Kd.int .u8) 5 w12 w.heap.size (fun k_ => some k_ ≠ (v274 : Value).ownBlock) v271 y270) := ⟨h0_⟩
                        have n1_ : Aside0 (Kd.R (Kd.int .u8) 5 w12 w.heap.size (fun k_ => some k_ ≠ (v271 : Value).ownBlock) v274 y273) := ⟨h1_⟩
                        have n2_ : Aside0 (Below w.heap.size w w12) := ⟨h2_⟩
                        clear HB
                        clear h0_ h1_ h2_
                        have HO272 := n0_
                        have HO275 := n1_
                        have HB := n2_
                        clear n0_ n1_ n2_
                        have hHeld := trivial
                        refine norm_ (a' := ?_) ?_ ?_
                        rotate_left
                        · simp only [putAll, Act.put, List.setIfInBounds_toArray, List.set_cons_zero, List.set_cons_succ]
                          rfl
                        refine two_ (i := 1) (j := 5) (Ni := some 13) (Nj := some 17) #[true, true, true, true, true, false, false, false, false] #[true, false, true, true, true, true, false, false, false] rfl rfl rfl rfl (two_of HT_.out (by kernel_rfl)) (by decide) (by decide) (fun K hK => ?_) (fun K hK => ?_)
                        · skip
                          have hcv13 := own_string (P := Try.prog) Try.underlying54 Try.underlying5 Try.underlying9 (Kd.own_of_R HO272.out)
                          refine value_ (w1 := ?_) (v := ?_) (by rfl) rfl ?_ ?_
                          rotate_left 2
                          · go_simp
                            constructor
                            · rfl
                            · rfl
                          clear hcv13
                          refine hK.out _ _ trivial (fun hHeld => ?_)
                          clear hK K
                          refine norm_ (a' := ?_) ?_ ?_
                          rotate_left
                          · show Act.put _ (some 13) _ = _
                            simp only [Act.put, List.setIfInBounds_toArray, List.set_cons_zero, List.set_cons_succ, i64_w, i32_w]
                            rfl
                          exact norm_ (by first | (simp only [putAll, Act.put, List.setIfInBounds_toArray, List.set_cons_zero, List.set_cons_succ]; done) | (simp only [putAll, Act.put, List.setIfInBounds_toArray, List.set_cons_zero, List.set_cons_succ]; rfl)) (hJ0_1_4 (v271, v274) _ ⟨(by (with_reducible repeat (first | apply Kd.R_alloc | apply Kd.R_drewN | apply Kd.R_drew)); exact HO272.out), (by (with_reducible repeat (first | apply Kd.R_alloc | apply Kd.R_drewN | apply Kd.R_drew)); exact HO275.out), (by repeat (first | (with_reducible first | exact HB.out | apply below_alloc | apply pw_below_drewN | apply below_drew1) | exact HB.out))⟩)
                        · skip
                          have hcv13 := own_string (P := Try.prog) Try.underlying54 Try.underlying5 Try.underlying9 (Kd.own_of_R HO275.out)
                          refine value_ (w1 := ?_) (v := ?_) (by rfl) rfl ?_ ?_
                          rotate_left 2
                          · go_simp
                            constructor
                            · rfl
                            · rfl
                          clear hcv13
                          refine hK.out _ _ trivial (fun hHeld => ?_)
                          clear hK K
                          refine norm_ (a' := ?_) ?_ ?_
                          rotate_left
                          · show Act.put _ (some 17) _ = _
                            simp only [Act.put, List.setIfInBounds_toArray, List.set_cons_zero, List.set_cons_succ, i64_w, i32_w]
                            rfl
                          exact norm_ (by first | (simp only [putAll, Act.put, List.setIfInBounds_toArray, List.set_cons_zero, List.set_cons_succ]; done) | (simp only [putAll, Act.put, List.setIfInBounds_toArray, List.set_cons_zero, List.set_cons_succ]; rfl)) (hJ0_4_5 (v271, v274) _ ⟨(by (with_reducible repeat (first | apply Kd.R_alloc | apply Kd.R_drewN | apply Kd.R_drew)); exact HO272.out), (by (with_reducible repeat (first | apply Kd.R_alloc | apply Kd.R_drewN | apply Kd.R_drew)); exact HO275.out), (by repeat (first | (with_reducible first | exact HB.out | apply below_alloc | apply pw_below_drewN | apply below_drew1) | exact HB.out))⟩)
                    · skip
                      rintro v271 w11 ⟨h0_, h1_⟩
                      have n0_ : Aside0 (Kd.R (Kd.int .u8) 5 w11 w.heap.size (fun _ => True) v271 y270) := ⟨h0_⟩
                      have n1_ : Aside0 (Below w.heap.size w w11) := ⟨h1_⟩
                      clear HB
                      clear h0_ h1_
                      have HO272 := n0_
                      have HB := n1_
                      clear n0_ n1_
                      have hHeld := trivial
                      refine norm_ (a' := ?_) ?_ ?_
                      rotate_left
                      · simp only [putAll, Act.put, List.setIfInBounds_toArray, List.set_cons_zero, List.set_cons_succ]
                        rfl
                      refine one_ (i := 4) (N := some 16) #[true, true, true, true, true, false, false, false, false] rfl rfl (one_of HT_.out (by kernel_rfl)) (by decide) (fun K hK => ?_)
                      refine Kd.R_lit_step (Kd.int .u8) _ 5 ?hg (N := 16) ?hd (xs := ([0, (a0) % 256] : List Int)) (inner := [.int .u8 0, .int .u8 ((a0) % 256)]) (ok := fun _ => True) (okp := fun _ => True) ?hr ?hp (fun _ hk => hk) trivial (Below.refl _ _) (Nat.le_refl _) (by simp) ?_; (case hd => rfl); (case hg => rfl); (case hr => first | (go_simp; done) | (go_simp; rfl)); (case hp => exact (Reps.one (show Kd.M (Kd.int .u8) _ _ _ 0 [.int .u8 0] from rfl) (Reps.one (show Kd.M (Kd.int .u8) _ _ _ ((a0) % 256) [.int .u8 ((a0) % 256)] from rfl) (Reps.none _ _))))
                      intro v274 w12 ho13 hb hg_ hnew_
                      clear hg_ hnew_
                      (first | rw [← Ny273.out] at ho13 | (simp only [Int.reduceToNat] at ho13; rw [← Ny273.out] at ho13))
                      have n0_ := Aside0.mk (Kd.R_elder' (by (with_reducible repeat (first | apply Kd.R_alloc | apply Kd.R_drewN | apply Kd.R_drew)); exact HO272.out) (Kd.R_base ho13) hb)
                      have n1_ := Aside0.mk (Kd.R_lower (Kd.R_new' ho13 (Kd.R_lt (by (with_reducible repeat (first | apply Kd.R_alloc | apply Kd.R_drewN | apply Kd.R_drew)); exact HO272.out))) (below_size (by repeat (first | (with_reducible first | exact HB.out | apply below_alloc | apply pw_below_drewN | apply below_drew1) | exact HB.out))))
                      have n2_ := Aside0.mk (below_step (by repeat (first | (with_reducible first | exact HB.out | apply below_alloc | apply pw_below_drewN | apply below_drew1) | exact HB.out)) hb)
                      clear HO272
                      clear HB
                      have HO272 := n0_
                      have HO275 := n1_
                      have HB := n2_
                      clear n0_ n1_ n2_
                      clear hb ho13
                      refine hK.out _ _ trivial (fun hHeld => ?_)
                      clear hK K
                      refine norm_ (a' := ?_) ?_ ?_
                      rotate_left
                      · show Act.put _ (some 16) _ = _
                        simp only [Act.put, List.setIfInBounds_toArray, List.set_cons_zero, List.set_cons_succ, i64_w, i32_w]
                        rfl
                      exact norm_ (by first | (simp only [putAll, Act.put, List.setIfInBounds_toArray, List.set_cons_zero, List.set_cons_succ]; done) | (simp only [putAll, Act.put, List.setIfInBounds_toArray, List.set_cons_zero, List.set_cons_succ]; rfl)) (hJ0_1_4 (v271, v274) _ ⟨(by (with_reducible repeat (first | apply Kd.R_alloc | apply Kd.R_drewN | apply Kd.R_drew)); exact Kd.R_mono HO272.out (fun _ hk => hk.2)), (by (with_reducible repeat (first | apply Kd.R_alloc | apply Kd.R_drewN | apply Kd.R_drew)); exact Kd.R_mono HO275.out (fun _ hk => hk.2)), (by repeat (first | (with_reducible first | exact HB.out | apply below_alloc | apply pw_below_drewN | apply below_drew1) | exact HB.out))⟩)
                  · skip
                    rintro v274 w12 ⟨h0_, h1_⟩
                    have n0_ : Aside0 (Kd.R (Kd.int .u8) 5 w12 w.heap.size (fun _ => True) v274 y273) := ⟨h0_⟩
                    have n1_ : Aside0 (Below w.heap.size w w12) := ⟨h1_⟩
                    clear HB
                    clear h0_ h1_
                    have HO275 := n0_
                    have HB := n1_
                    clear n0_ n1_
                    have hHeld := trivial
                    refine norm_ (a' := ?_) ?_ ?_
                    rotate_left
                    · simp only [putAll, Act.put, List.setIfInBounds_toArray, List.set_cons_zero, List.set_cons_succ]
                      rfl
                    refine one_ (i := 0) (N := some 12) #[true, false, true, true, true, true, true, false, false] rfl rfl (one_of HT_.out (by kernel_rfl)) (by decide) (fun K hK => ?_)
                    refine Kd.R_lit_step (Kd.int .u8) _ 5 ?hg (N := 12) ?hd (xs := ([92, 117] : List Int)) (inner := [.int .u8 92, .int .u8 117]) (ok := fun _ => True) (okp := fun _ => True) ?hr ?hp (fun _ hk => hk) trivial (Below.refl _ _) (Nat.le_refl _) (by simp) ?_; (case hd => rfl); (case hg => rfl); (case hr => first | (go_simp; done) | (go_simp; rfl)); (case hp => exact (Reps.one (show Kd.M (Kd.int .u8) _ _ _ 92 [.int .u8 92] from rfl) (Reps.one (show Kd.M (Kd.int .u8) _ _ _ 117 [.int .u8 117] from rfl) (Reps.none _ _))))
                    intro v271 w13 ho14 hb hg_ hnew_
                    clear hg_ hnew_
                    (first | rw [← Ny270.out] at ho14 | (simp only [Int.reduceToNat] at ho14; rw [← Ny270.out] at ho14))
                    have n0_ := Aside0.mk (Kd.R_elder' (by (with_reducible repeat (first | apply Kd.R_alloc | apply Kd.R_drewN | apply Kd.R_drew)); exact HO275.out) (Kd.R_base ho14) hb)
                    have n1_ := Aside0.mk (Kd.R_lower (Kd.R_new' ho14 (Kd.R_lt (by (with_reducible repeat (first | apply Kd.R_alloc | apply Kd.R_drewN | apply Kd.R_drew)); exact HO275.out))) (below_size (by repeat (first | (with_reducible first | exact HB.out | apply below_alloc | apply pw_below_drewN | apply below_drew1) | exact HB.out))))
                    have n2_ := Aside0.mk (below_step (by repeat (first | (with_reducible first | exact HB.out | apply below_alloc | apply pw_below_drewN | apply below_drew1) | exact HB.out)) hb)
                    clear HO275
                    clear HB
                    have HO275 := n0_
                    have HO272 := n1_
                    have HB := n2_
                    clear n0_ n1_ n2_
                    clear hb ho14
                    refine hK.out _ _ trivial (fun hHeld => ?_)
                    clear hK K
                    refine norm_ (a' := ?_) ?_ ?_
                    rotate_left
                    · show Act.put _ (some 12) _ = _
                      simp only [Act.put, List.setIfInBounds_toArray, List.set_cons_zero, List.set_cons_succ, i64_w, i32_w]
                      rfl
                    exact norm_ (by first | (simp only [putAll, Act.put, List.setIfInBounds_toArray, List.set_cons_zero, List.set_cons_succ]; done) | (simp only [putAll, Act.put, List.setIfInBounds_toArray, List.set_cons_zero, List.set_cons_succ]; rfl)) (hJ0_4_5_6 (v271, v274) _ ⟨(by (with_reducible repeat (first | apply Kd.R_alloc | apply Kd.R_drewN | apply Kd.R_drew)); exact Kd.R_mono HO272.out (fun _ hk => hk.2)), (by (with_reducible repeat (first | apply Kd.R_alloc | apply Kd.R_drewN | apply Kd.R_drew)); exact Kd.R_mono HO275.out (fun _ hk => hk.2)), (by repeat (first | (with_reducible first | exact HB.out | apply below_alloc | apply pw_below_drewN | apply below_drew1) | exact HB.out))⟩)
                · skip
                  rintro ⟨v271, v274⟩ w13 ⟨h0_, h1_, h2_⟩
                  have n0_ : Aside0 (Kd.R (Kd.int .u8) 5 w13 w.heap.size (fun k_ => some k_ ≠ (v274 : Value).ownBlock) v271 y270) := ⟨h0_⟩
                  have n1_ : Aside0 (Kd.R (Kd.int .u8) 5 w13 w.heap.size (fun k_ => some k_ ≠ (v271 : Value).ownBlock) v274 y273) := ⟨h1_⟩
                  have n2_ : Aside0 (Below w.heap.size w w13) := ⟨h2_⟩
                  clear HB
                  clear h0_ h1_ h2_
                  have HO272 := n0_
                  have HO275 := n1_
                  have HB := n2_
                  clear n0_ n1_ n2_
                  have hHeld := trivial
                  refine norm_ (a' := ?_) ?_ ?_
                  rotate_left
                  · simp only [putAll, Act.put, List.setIfInBounds_toArray, List.set_cons_zero, List.set_cons_succ]
                    rfl
                  refine two_ (i := 1) (j := 6) (Ni := some 13) (Nj := some 18) #[true, true, true, true, true, true, false, false, false] #[true, false, true, true, true, true, true, false, false] rfl rfl rfl rfl (two_of HT_.out (by kernel_rfl)) (by decide) (by decide) (fun K hK => ?_) (fun K hK => ?_)
                  · skip
                    have hcv14 := own_string (P := Try.prog) Try.underlying54 Try.underlying5 Try.underlying9 (Kd.own_of_R HO272.out)
                    refine value_ (w1 := ?_) (v := ?_) (by rfl) rfl ?_ ?_
                    rotate_left 2
                    · go_simp
                      constructor
                      · rfl
                      · rfl
                    clear hcv14
                    refine hK.out _ _ trivial (fun hHeld => ?_)
                    clear hK K
                    refine norm_ (a' := ?_) ?_ ?_
                    rotate_left
                    · show Act.put _ (some 13) _ = _
                      simp only [Act.put, List.setIfInBounds_toArray, List.set_cons_zero, List.set_cons_succ, i64_w, i32_w]
                      rfl
                    exact norm_ (by first | (simp only [putAll, Act.put, List.setIfInBounds_toArray, List.set_cons_zero, List.set_cons_succ]; done) | (simp only [putAll, Act.put, List.setIfInBounds_toArray, List.set_cons_zero, List.set_cons_succ]; rfl)) (hJ0_1_4_5 (v271, v274) _ ⟨(by (with_reducible repeat (first | apply Kd.R_alloc | apply Kd.R_drewN | apply Kd.R_drew)); exact HO272.out), (by (with_reducible repeat (first | apply Kd.R_alloc | apply Kd.R_drewN | apply Kd.R_drew)); exact HO275.out), (by repeat (first | (with_reducible first | exact HB.out | apply below_alloc | apply pw_below_drewN | apply below_drew1) | exact HB.out))⟩)
                  · skip
                    refine goes_ Try.func45 (by kernel_rfl) rfl #[.string (strOfNums y273)] (by rfl) rfl rfl (by (try simp only [List.map_toArray, List.map_cons, List.map_nil]); first | done | rfl | (simp only [List.length_drop, List.length_take]; rfl)) ?_
                    with_reducible refine (sealringref01_Hex.calls k (strOfNums y273) t276 _ A5.out).mono ?_
                    rintro e w14 ⟨rfl, hb⟩
                    refine ⟨_, rfl, ?_⟩
                    have n0_ := Aside0.mk (Kd.R_below (by (with_reducible repeat (first | apply Kd.R_alloc | apply Kd.R_drewN | apply Kd.R_drew)); exact HO272.out) hb)
                    have n1_ := Aside0.mk (Kd.R_below (by (with_reducible repeat (first | apply Kd.R_alloc | apply Kd.R_drewN | apply Kd.R_drew)); exact HO275.out) hb)
                    have n2_ := Aside0.mk (below_step (by repeat (first | (with_reducible first | exact HB.out | apply below_alloc | apply pw_below_drewN | apply below_drew1) | exact HB.out)) hb)
                    clear HO272
                    clear HO275
                    clear HB
                    have HO272 := n0_
                    have HO275 := n1_
                    have HB := n2_
                    clear n0_ n1_ n2_
                    (try clear hb)
                    (try clear hb2)
                    (try clear hk)
                    (try clear hi)
                    refine hK.out _ _ trivial (fun hHeld => ?_)
                    clear hK K
                    refine norm_ (a' := ?_) ?_ ?_
                    rotate_left
                    · show Act.put _ (some 18) _ = _
                      simp only [Act.put, List.setIfInBounds_toArray, List.set_cons_zero, List.set_cons_succ, i64_w, i32_w]
                      rfl
                    exact norm_ (by first | (simp only [putAll, Act.put, List.setIfInBounds_toArray, List.set_cons_zero, List.set_cons_succ]; done) | (simp only [putAll, Act.put, List.setIfInBounds_toArray, List.set_cons_zero, List.set_cons_succ]; rfl)) (hJ0_4_5_6 (v271, v274) _ ⟨(by (with_reducible repeat (first | apply Kd.R_alloc | apply Kd.R_drewN | apply Kd.R_drew)); exact HO272.out), (by (with_reducible repeat (first | apply Kd.R_alloc | apply Kd.R_drewN | apply Kd.R_drew)); exact HO275.out), (by repeat (first | (with_reducible first | exact HB.out | apply below_alloc | apply pw_below_drewN | apply below_drew1) | exact HB.out))⟩)
              · skip
                rintro ⟨v271, v274⟩ w13 ⟨h0_, h1_, h2_⟩
                have n0_ : Aside0 (Kd.R (Kd.int .u8) 5 w13 w.heap.size (fun k_ => some k_ ≠ (v274 : Value).ownBlock) v271 y270) := ⟨h0_⟩
                have n1_ : Aside0 (Kd.R (Kd.int .u8) 5 w13 w.heap.size (fun k_ => some k_ ≠ (v271 : Value).ownBlock) v274 y273) := ⟨h1_⟩
                have n2_ : Aside0 (Below w.heap.size w w13) := ⟨h2_⟩
                clear HB
                clear h0_ h1_ h2_
                have HO272 := n0_
                have HO275 := n1_
                have HB := n2_
                clear n0_ n1_ n2_
                have hHeld := trivial
                refine norm_ (a' := ?_) ?_ ?_
                rotate_left
                · simp only [putAll, Act.put, List.setIfInBounds_toArray, List.set_cons_zero, List.set_cons_succ]
                  rfl
                refine one_ (i := 5) (N := some 17) #[true, true, true, true, true, true, false, false, false] rfl rfl (one_of HT_.out (by kernel_rfl)) (by decide) (fun K hK => ?_)
                have hcv14 := own_string (P := Try.prog) Try.underlying54 Try.underlying5 Try.underlying9 (Kd.own_of_R HO275.out)
                refine value_ (w1 := ?_) (v := ?_) (by rfl) rfl ?_ ?_
                rotate_left 2
                · go_simp
                  constructor
                  · rfl
                  · rfl
                clear hcv14
                refine hK.out _ _ trivial (fun hHeld => ?_)
                clear hK K
                refine norm_ (a' := ?_) ?_ ?_
                rotate_left
                · show Act.put _ (some 17) _ = _
                  simp only [Act.put, List.setIfInBounds_toArray, List.set_cons_zero, List.set_cons_succ, i64_w, i32_w]
                  rfl
                exact norm_ (by first | (simp only [putAll, Act.put, List.setIfInBounds_toArray, List.set_cons_zero, List.set_cons_succ]; done) | (simp only [putAll, Act.put, List.setIfInBounds_toArray, List.set_cons_zero, List.set_cons_succ]; rfl)) (hJ0_1_4_5 (v271, v274) _ ⟨(by (with_reducible repeat (first | apply Kd.R_alloc | apply Kd.R_drewN | apply Kd.R_drew)); exact HO272.out), (by (with_reducible repeat (first | apply Kd.R_alloc | apply Kd.R_drewN | apply Kd.R_drew)); exact HO275.out), (by repeat (first | (with_reducible first | exact HB.out | apply below_alloc | apply pw_below_drewN | apply below_drew1) | exact HB.out))⟩)
            · skip
              rintro ⟨v271, v274⟩ w14 ⟨h0_, h1_, h2_⟩
              have n0_ : Aside0 (Kd.R (Kd.int .u8) 5 w14 w.heap.size (fun k_ => some k_ ≠ (v274 : Value).ownBlock) v271 y270) := ⟨h0_⟩
              have n1_ : Aside0 (Kd.R (Kd.int .u8) 5 w14 w.heap.size (fun k_ => some k_ ≠ (v271 : Value).ownBlock) v274 y273) := ⟨h1_⟩
              have n2_ : Aside0 (Below w.heap.size w w14) := ⟨h2_⟩
              clear HB
              clear h0_ h1_ h2_
              have HO272 := n0_
              have HO275 := n1_
              have HB := n2_
              clear n0_ n1_ n2_
              have hHeld := trivial
              refine norm_ (a' := ?_) ?_ ?_
              rotate_left
              · simp only [putAll, Act.put, List.setIfInBounds_toArray, List.set_cons_zero, List.set_cons_succ]
                rfl
              refine one_ (i := 1) (N := some 13) #[true, true, true, true, true, true, true, false, false] rfl rfl (one_of HT_.out (by kernel_rfl)) (by decide) (fun K hK => ?_)
              have hcv15 := own_string (P := Try.prog) Try.underlying54 Try.underlying5 Try.underlying9 (Kd.own_of_R HO272.out)
              refine value_ (w1 := ?_) (v := ?_) (by rfl) rfl ?_ ?_
              rotate_left 2
              · go_simp
                constructor
                · rfl
                · rfl
              clear hcv15
              refine hK.out _ _ trivial (fun hHeld => ?_)
              clear hK K
              refine norm_ (a' := ?_) ?_ ?_
              rotate_left
              · show Act.put _ (some 13) _ = _
                simp only [Act.put, List.setIfInBounds_toArray, List.set_cons_zero, List.set_cons_succ, i64_w, i32_w]
                rfl
              exact norm_ (by first | (simp only [putAll, Act.put, List.setIfInBounds_toArray, List.set_cons_zero, List.set_cons_succ]; done) | (simp only [putAll, Act.put, List.setIfInBounds_toArray, List.set_cons_zero, List.set_cons_succ]; rfl)) (hJ0_1_4_5_6 (v271, v274) _ ⟨(by (with_reducible repeat (first | apply Kd.R_alloc | apply Kd.R_drewN | apply Kd.R_drew)); exact HO272.out), (by (with_reducible repeat (first | apply Kd.R_alloc | apply Kd.R_drewN | apply Kd.R_drew)); exact HO275.out), (by repeat (first | (with_reducible first | exact HB.out | apply below_alloc | apply pw_below_drewN | apply below_drew1) | exact HB.out))⟩)
          · skip
            rintro ⟨v271, v274⟩ w14 ⟨h0_, h1_, h2_⟩
            have n0_ : Aside0 (Kd.R (Kd.int .u8) 5 w14 w.heap.size (fun k_ => some k_ ≠ (v274 : Value).ownBlock) v271 y270) := ⟨h0_⟩
            have n1_ : Aside0 (Kd.R (Kd.int .u8) 5 w14 w.heap.size (fun k_ => some k_ ≠ (v271 : Value).ownBlock) v274 y273) := ⟨h1_⟩
            have n2_ : Aside0 (Below w.heap.size w w14) := ⟨h2_⟩
            clear HB
            clear h0_ h1_ h2_
            have HO272 := n0_
            have HO275 := n1_
            have HB := n2_
            clear n0_ n1_ n2_
            have hHeld := trivial
            refine norm_ (a' := ?_) ?_ ?_
            rotate_left
            · simp only [putAll, Act.put, List.setIfInBounds_toArray, List.set_cons_zero, List.set_cons_succ]
              rfl
            refine one_ (i := 6) (N := some 18) #[true, true, true, true, true, true, true, false, false] rfl rfl (one_of HT_.out (by kernel_rfl)) (by decide) (fun K hK => ?_)
            refine goes_ Try.func45 (by kernel_rfl) rfl #[.string (strOfNums y273)] (by rfl) rfl rfl (by (try simp only [List.map_toArray, List.map_cons, List.map_nil]); first | done | rfl | (simp only [List.length_drop, List.length_take]; rfl)) ?_
            with_reducible refine (sealringref01_Hex.calls k (strOfNums y273) t276 _ A5.out).mono ?_
            rintro e w15 ⟨rfl, hb⟩
            refine ⟨_, rfl, ?_⟩
            have n0_ := Aside0.mk (Kd.R_below (by (with_reducible repeat (first | apply Kd.R_alloc | apply Kd.R_drewN | apply Kd.R_drew)); exact HO272.out) hb)
            have n1_ := Aside0.mk (Kd.R_below (by (with_reducible repeat (first | apply Kd.R_alloc | apply Kd.R_drewN | apply Kd.R_drew)); exact HO275.out) hb)
            have n2_ := Aside0.mk (below_step (by repeat (first | (with_reducible first | exact HB.out | apply below_alloc | apply pw_below_drewN | apply below_drew1) | exact HB.out)) hb)
            clear HO272
            clear HO275
            clear HB
            have HO272 := n0_
            have HO275 := n1_
            have HB := n2_
            clear n0_ n1_ n2_
            (try clear hb)
            (try clear hb2)
            (try clear hk)
            (try clear hi)
            refine hK.out _ _ trivial (fun hHeld => ?_)
            clear hK K
            refine norm_ (a' := ?_) ?_ ?_
            rotate_left
            · show Act.put _ (some 18) _ = _
              simp only [Act.put, List.setIfInBounds_toArray, List.set_cons_zero, List.set_cons_succ, i64_w, i32_w]
              rfl
            exact norm_ (by first | (simp only [putAll, Act.put, List.setIfInBounds_toArray, List.set_cons_zero, List.set_cons_succ]; done) | (simp only [putAll, Act.put, List.setIfInBounds_toArray, List.set_cons_zero, List.set_cons_succ]; rfl)) (hJ0_1_4_5_6 (v271, v274) _ ⟨(by (with_reducible repeat (first | apply Kd.R_alloc | apply Kd.R_drewN | apply Kd.R_drew)); exact HO272.out), (by (with_reducible repeat (first | apply Kd.R_alloc | apply Kd.R_drewN | apply Kd.R_drew)); exact HO275.out), (by repeat (first | (with_reducible first | exact HB.out | apply below_alloc | apply pw_below_drewN | apply below_drew1) | exact HB.out))⟩)
        rintro ⟨v271, v274⟩ w15 ⟨h0_, h1_, h2_⟩
        have n0_ : Aside0 (Kd.R (Kd.int .u8) 5 w15 w.heap.size (fun k_ => some k_ ≠ (v274 : Value).ownBlock) v271 y270) := ⟨h0_⟩
        have n1_ : Aside0 (Kd.R (Kd.int .u8) 5 w15 w.heap.size (fun k_ => some k_ ≠ (v271 : Value).ownBlock) v274 y273) := ⟨h1_⟩
        have n2_ : Aside0 (Below w.heap.size w w15) := ⟨h2_⟩
        clear HB
        clear h0_ h1_ h2_
        have HO272 := n0_
        have HO275 := n1_
        have HB := n2_
        clear n0_ n1_ n2_
        have hHeld := trivial
        refine norm_ (a' := ?_) ?_ ?_
        rotate_left
        · simp only [putAll, Act.put, List.setIfInBounds_toArray, List.set_cons_zero, List.set_cons_succ]
          rfl
        refine pure_ (i := 7) (N := some 19) (v := ?_) (a' := ?_) #[true, true, true, true, true, true, true, true, false] rfl rfl (any_of HT_.out (by kernel_rfl)) (fun _ _ _ h => h) (Or.inl ⟨by rfl, ?_⟩) ?_ ?_
        rotate_left
        · intro w'
          go_simp
          with_reducible rfl
        rotate_left
        · simp only [Act.put, List.setIfInBounds_toArray, List.set_cons_zero, List.set_cons_succ, i64_w, i32_w]
          rfl
        refine pure_ (i := 8) (N := some 2) (v := ?_) (a' := ?_) #[true, true, true, true, true, true, true, true, true] rfl rfl (any_of HT_.out (by kernel_rfl)) (fun _ _ _ h => h) (Or.inl ⟨by rfl, ?_⟩) ?_ ?_
        rotate_left
        · intro w'
          go_simp
          with_reducible rfl
        rotate_left
        · simp only [Act.put, List.setIfInBounds_toArray, List.set_cons_zero, List.set_cons_succ, i64_w, i32_w]
          rfl
        refine done_ (done_of HT_.out (by kernel_rfl)) ?_
        try go_wp2
        go_ret
        exact ⟨by first | rfl | (simp [errW_none, errW_some] <;> rfl) | (simp [*, errW_none, errW_some] <;> rfl), by repeat (first | (with_reducible first | exact HB.out | apply below_alloc | apply pw_below_drewN | apply below_drew1) | exact HB.out)⟩
      · rw [if_neg c6] at H
        exact absurd H (by simp)
    · rw [if_neg c4] at H
      have c4b0 : decide (a0 < 32) = false := decide_eq_false c4
      clear c4
      replace H := Option.bind_eq_some_iff.mp H
      obtain ⟨t277, A160, H⟩ := H
      replace H : (some t277) = some r := H
      have A16 := Aside0.mk A160
      clear A160
      obtain rfl := Option.some.inj H
      go_enter Try.func37, Try.ntmps37
      go_wp2_with (first | ((with_reducible refine gate_callee (f := 42) rfl ?_); refine goesL_ (some 4) rfl rfl Try.func42 (by kernel_rfl) rfl #[.int .i64 a0] rfl (by (try simp only [List.map_toArray, List.map_cons, List.map_nil]); first | done | rfl | (simp only [List.length_drop, List.length_take]; rfl)) ?_; (with_reducible refine (sealringref04_small.calls k a0 t265 _ A2.out).mono ?_); rintro e w' ⟨rfl, ⟨nd, rfl⟩⟩; refine ⟨_, rfl, ?_⟩) | ((with_reducible refine gate_callee (f := 12) rfl ?_); refine goesL_ (some 21) rfl rfl Try.func12 (by kernel_rfl) rfl #[.int .i64 a0] rfl (by (try simp only [List.map_toArray, List.map_cons, List.map_nil]); first | done | rfl | (simp only [List.length_drop, List.length_take]; rfl)) ?_; (with_reducible refine (sealringref03_Form.calls a0 t277 _ A16.out).mono ?_); rintro e w17 ⟨rfl, hb⟩; refine ⟨_, rfl, ?_⟩; have n0_ := Aside0.mk (below_step (by repeat (first | (with_reducible first | exact HB.out | apply below_alloc | apply pw_below_drewN | apply below_drew1) | exact HB.out)) hb); clear HB; have HB := n0_; clear n0_; (try clear hb); (try clear hb2); (try clear hk); (try clear hi)))
      go_ret
      exact ⟨by first | rfl | (simp [errW_none, errW_some] <;> rfl) | (simp [*, errW_none, errW_some] <;> rfl), by repeat (first | (with_reducible first | exact HB.out | apply below_alloc | apply pw_below_drewN | apply below_drew1) | exact HB.out)⟩
  · rw [if_neg c3] at H
    have c3b0 : (t265 == 0) = false := beq_eq_false_iff_ne.mpr c3
    have c3b1 : (t265 != 0) = true := bne_iff_ne.mpr c3
    replace H := Option.bind_eq_some_iff.mp H
    obtain ⟨t266, A180, H⟩ := H
    replace H : (some (strOfNums (([92, t266] : List Int)))) = some r := H
    have A18 := Aside0.mk A180
    clear A180
    have EA18 : t265 = t266 := Option.some.inj (A2.out.symm.trans A18.out)
    subst EA18
    obtain ⟨y267, hy267⟩ : ∃ y_ : List Int, y_ = (([92, t265] : List Int)) := ⟨_, rfl⟩
    replace H : (some (strOfNums y267)) = some r := by first | (rw [hy267]; with_reducible exact H) | (have H2_ := (Option.bind_some _ _).symm.trans H; rw [hy267]; with_reducible exact H2_) | (have H2_ := (Option.bind_some _ _).symm.trans H; with_reducible exact H2_) | with_reducible exact H | (rw [hy267]; exact H) | exact H
    have Ny267 := Aside0.mk hy267
    clear hy267
    obtain rfl := Option.some.inj H
    go_enter Try.func37, Try.ntmps37
    go_wp2_with (first | ((with_reducible refine gate_callee (f := 42) rfl ?_); refine goesL_ (some 4) rfl rfl Try.func42 (by kernel_rfl) rfl #[.int .i64 a0] rfl (by (try simp only [List.map_toArray, List.map_cons, List.map_nil]); first | done | rfl | (simp only [List.length_drop, List.length_take]; rfl)) ?_; (with_reducible refine (sealringref04_small.calls k a0 t265 _ A2.out).mono ?_); rintro e w' ⟨rfl, ⟨nd, rfl⟩⟩; refine ⟨_, rfl, ?_⟩) | ((with_reducible refine gate_callee (f := 42) rfl ?_); refine goesL_ (some 7) rfl rfl Try.func42 (by kernel_rfl) rfl #[.int .i64 a0] rfl (by (try simp only [List.map_toArray, List.map_cons, List.map_nil]); first | done | rfl | (simp only [List.length_drop, List.length_take]; rfl)) ?_; (with_reducible refine (sealringref04_small.calls k a0 t265 _ A18.out).mono ?_); rintro e w' ⟨rfl, ⟨nd, rfl⟩⟩; refine ⟨_, rfl, ?_⟩) | ((with_reducible refine gate_dst (N := 8) rfl ?_); refine Kd.R_lit (Kd.int .u8) _ 5 ?hg (N := 8) ?hd (xs := ([92, t265] : List Int)) (inner := [.int .u8 92, .int .u8 t265]) (ok := fun _ => True) (okp := fun _ => True) ?hr ?hp (fun _ hk => hk) trivial (Below.refl _ _) (Nat.le_refl _) (by simp) ?_; (case hd => rfl); (case hg => rfl); (case hr => first | (go_simp; done) | (go_simp; rfl)); (case hp => exact (Reps.one (show Kd.M (Kd.int .u8) _ _ _ 92 [.int .u8 92] from rfl) (Reps.one (show Kd.M (Kd.int .u8) _ _ _ t265 [.int .u8 t265] from rfl) (Reps.none _ _)))); intro v268 w19 ho20 hb hg_ hnew_; clear hg_ hnew_; (first | rw [← Ny267.out] at ho20 | (simp only [Int.reduceToNat] at ho20; rw [← Ny267.out] at ho20)); have n0_ := Aside0.mk (Kd.R_lower ho20 (below_size (by repeat (first | (with_reducible first | exact HB.out | apply below_alloc | apply pw_below_drewN | apply below_drew1) | exact HB.out)))); have n1_ := Aside0.mk (below_step (by repeat (first | (with_reducible first | exact HB.out | apply below_alloc | apply pw_below_drewN | apply below_drew1) | exact HB.out)) hb); clear HB; have HO269 := n0_; have HB := n1_; clear n0_ n1_; clear hb ho20; have hcv21 := own_string (P := Try.prog) Try.underlying54 Try.underlying5 Try.underlying9 (Kd.own_of_R HO269.out)))
    go_ret
    exact ⟨by first | rfl | (simp [errW_none, errW_some] <;> rfl) | (simp [*, errW_none, errW_some] <;> rfl), by repeat (first | (with_reducible first | exact HB.out | apply below_alloc | apply pw_below_drewN | apply below_drew1) | exact HB.out)⟩
end Go.Proofs.Ytijfbnkohnlmaaa.X
end
section
namespace Go.Proofs.Ytijfbnkohnlmaaa.X
open Go.RowKit Go.Proofs.YtijfbnkohnlmaaaW.PrintWords Go.Proofs.YtijfbnkohnlmaaaW.PrintLast Go.Proofs.YtijfbnkohnlmaaaW.PrintMore
attribute [local go_sem] max2_int min2_int max_two min_two max_three min_three max_four min_four
set_option linter.unusedVariables false
set_option linter.unusedSimpArgs false
def sealringref04_Quote.l0 : Nat → List Int → ByteArray → Int → Option (ByteArray × Int)
  | 0, _, _, _ => none
  | k + 1, x4, x7, x8 => if x8 < (x4.length : Int) then (if 0 ≤ x8 then ((sealringref04_one.f k (rd x4 x8)).bind fun t289 => (if x7.size + t289.size ≤ 9223372036854775807 then (sealringref04_Quote.l0 k x4 (x7 ++ t289) (wrap64 (x8 + 1))) else (none))) else (none)) else ((some (([34] : List Int) : List Int)).bind fun y290 => (if x7.size + (strOfNums y290).size ≤ 9223372036854775807 then (some (x7 ++ (strOfNums y290), 0)) else (none)))
def sealringref04_Quote.f (k : Nat) (a0 : ByteArray) : Option (ByteArray × Int) := (sealringref03_All.f k a0).bind fun bt278 => (if bt278.2.2 = (a0.size : Int) then (sealringref04_Quote.l0 k bt278.1 (strOfNums (([34] : List Int))) 0) else (some ((⟨#[]⟩ : ByteArray), 10)))
theorem sealringref04_Quote.mono_l : ∀ k, (∀ y0 y1 y2, LeO (sealringref04_Quote.l0 k y0 y1 y2) (sealringref04_Quote.l0 (k + 1) y0 y1 y2))
  | 0 => fun _ _ _ r h => by simp [sealringref04_Quote.l0] at h
  | k + 1 => by
    have ih0 := sealringref04_Quote.mono_l k
    · intro y0 y1 y2
      unfold sealringref04_Quote.l0
      repeat' first
      | (with_reducible exact ih0 _ _ _)
      | (with_reducible exact sealringref03_All.mono _ _)
      | (with_reducible exact sealringref04_one.mono _ _)
      | (with_reducible exact LeO.refl _)
      | (with_reducible exact LeO.none _)
      | (with_reducible refine LeO.ite ?_ ?_)
      | (with_reducible refine LeO.bind ?_ (fun _ => ?_))
      | exact ih0 _ _ _
      | exact sealringref03_All.mono _ _
      | exact sealringref04_one.mono _ _
      | exact LeO.none _
      | refine LeO.ite ?_ ?_
      | refine LeO.bind ?_ (fun _ => ?_)
theorem sealringref04_Quote.mono : ∀ a0 k, LeO (sealringref04_Quote.f k a0) (sealringref04_Quote.f (k + 1) a0) := by
  intro a0 k
  have ih0 := sealringref04_Quote.mono_l k
  unfold sealringref04_Quote.f
  repeat' first
      | (with_reducible exact ih0 _ _ _)
      | (with_reducible exact sealringref03_All.mono _ _)
      | (with_reducible exact sealringref04_one.mono _ _)
      | (with_reducible exact LeO.refl _)
      | (with_reducible exact LeO.none _)
      | (with_reducible refine LeO.ite ?_ ?_)
      | (with_reducible refine LeO.bind ?_ (fun _ => ?_))
      | exact ih0 _ _ _
      | exact sealringref03_All.mono _ _
      | exact sealringref04_one.mono _ _
      | exact LeO.none _
      | refine LeO.ite ?_ ?_
      | refine LeO.bind ?_ (fun _ => ?_)
set_option maxHeartbeats 8000000 in
set_option maxRecDepth 100000 in
theorem sealringref04_Quote.calls (k : Nat) (a0 : ByteArray) (r1 : ByteArray) (r2 : Int) (w : World) (h : sealringref04_Quote.f k a0 = some (r1, r2)) :
    Calls Try.prog 25 #[.string a0] w fun e w' => e = .returned (.tuple #[.string r1, .int .i64 r2]) ∧ Below w.heap.size w w' := by
  have HB := Aside0.mk (Below.refl w.heap.size w)
  have H : ((sealringref03_All.f k a0).bind fun bt278 => (if bt278.2.2 = (a0.size : Int) then (sealringref04_Quote.l0 k bt278.1 (strOfNums (([34] : List Int))) 0) else (some ((⟨#[]⟩ : ByteArray), 10)))) = some (r1, r2) := h
  clear h
  replace H := Option.bind_eq_some_iff.mp H
  obtain ⟨⟨t278, t279, t280⟩, A20, H⟩ := H
  replace H : (if t280 = (a0.size : Int) then (sealringref04_Quote.l0 k t278 (strOfNums (([34] : List Int))) 0) else (some ((⟨#[]⟩ : ByteArray), 10))) = some (r1, r2) := H
  have A2 := Aside0.mk A20
  clear A20
  by_cases c3 : t280 = (a0.size : Int)
  · rw [if_pos c3] at H
    have c3b0 : (t280 == (a0.size : Int)) = true := beq_iff_eq.mpr c3
    have c3b1 : (t280 != (a0.size : Int)) = false := bne_eq_false_iff_eq.mpr c3
    clear c3
    obtain ⟨y285, hy285⟩ : ∃ y_ : List Int, y_ = (([34] : List Int)) := ⟨_, rfl⟩
    replace H : (sealringref04_Quote.l0 k t278 (strOfNums y285) 0) = some (r1, r2) := by first | (rw [hy285]; with_reducible exact H) | (have H2_ := (Option.bind_some _ _).symm.trans H; rw [hy285]; with_reducible exact H2_) | (have H2_ := (Option.bind_some _ _).symm.trans H; with_reducible exact H2_) | with_reducible exact H | (rw [hy285]; exact H) | exact H
    have Ny285 := Aside0.mk hy285
    clear hy285
    have H' := Aside0.mk H
    clear H
    go_enter Try.func25, Try.ntmps25
    go_wp2_with (first | ((with_reducible refine gate_callee (f := 18) rfl ?_); refine goesL_ (some 11) rfl rfl Try.func18 (by kernel_rfl) rfl #[.string a0] rfl (by (try simp only [List.map_toArray, List.map_cons, List.map_nil]); first | done | rfl | (simp only [List.length_drop, List.length_take]; rfl)) ?_; (with_reducible refine (sealringref03_All.calls k a0 t278 t279 t280 _ A2.out).mono ?_); rintro e w4 ⟨v281, v283, rfl, ho0, ho1, hb⟩; refine ⟨_, rfl, ?_⟩; have n0_ := Aside0.mk (Kd.R_lower ho0 (below_size (by repeat (first | (with_reducible first | exact HB.out | apply below_alloc | apply pw_below_drewN | apply below_drew1) | exact HB.out)))); have n1_ := Aside0.mk (Kd.R_lower ho1 (below_size (by repeat (first | (with_reducible first | exact HB.out | apply below_alloc | apply pw_below_drewN | apply below_drew1) | exact HB.out)))); have n2_ := Aside0.mk (below_step (by repeat (first | (with_reducible first | exact HB.out | apply below_alloc | apply pw_below_drewN | apply below_drew1) | exact HB.out)) hb); clear HB; have HO282 := n0_; have HO284 := n1_; have HB := n2_; clear n0_ n1_ n2_; (try clear hb); (try clear hb2); (try clear hk); (try clear hi); (try clear ho0); (try clear ho1)) | ((with_reducible refine gate_dst (N := 19) rfl ?_); refine Kd.R_lit (Kd.int .u8) _ 5 ?hg (N := 19) ?hd (xs := ([34] : List Int)) (inner := [.int .u8 34]) (ok := fun _ => True) (okp := fun _ => True) ?hr ?hp (fun _ hk => hk) trivial (Below.refl _ _) (Nat.le_refl _) (by simp) ?_; (case hd => rfl); (case hg => rfl); (case hr => first | (go_simp; done) | (go_simp; rfl)); (case hp => exact (Reps.one (show Kd.M (Kd.int .u8) _ _ _ 34 [.int .u8 34] from rfl) (Reps.none _ _))); intro v286 w5 ho6 hb hg_ hnew_; clear hg_ hnew_; (first | rw [← Ny285.out] at ho6 | (simp only [Int.reduceToNat] at ho6; rw [← Ny285.out] at ho6)); have n0_ := Aside0.mk (Kd.R_below (by (with_reducible repeat (first | apply Kd.R_alloc | apply Kd.R_drewN | apply Kd.R_drew)); exact HO282.out) hb); have n1_ := Aside0.mk (Kd.R_below (by (with_reducible repeat (first | apply Kd.R_alloc | apply Kd.R_drewN | apply Kd.R_drew)); exact HO284.out) hb); have n2_ := Aside0.mk (Kd.R_lower ho6 (below_size (by repeat (first | (with_reducible first | exact HB.out | apply below_alloc | apply pw_below_drewN | apply below_drew1) | exact HB.out)))); have n3_ := Aside0.mk (below_step (by repeat (first | (with_reducible first | exact HB.out | apply below_alloc | apply pw_below_drewN | apply below_drew1) | exact HB.out)) hb); clear HO282; clear HO284; clear HB; have HO282 := n0_; have HO284 := n1_; have HO287 := n2_; have HB := n3_; clear n0_ n1_ n2_ n3_; clear hb ho6; have hcv7 := own_string (P := Try.prog) Try.underlying54 Try.underlying5 Try.underlying9 (Kd.own_of_R HO287.out)))
    go_loopg [7, 8] k (fun kq v7 v8 w' => ∃ (x7_1 : ByteArray) (x8_1 : Int), v7 = .string x7_1 ∧ v8 = .int .i64 x8_1 ∧ Aside0 (sealringref04_Quote.l0 kq t278 x7_1 x8_1 = some (r1, r2)) ∧ Aside0 (kq ≤ k) ∧ Aside0 (Kd.R (Kd.int .i64) 2 w' w.heap.size (fun _ => True) v281 t278) ∧ Aside0 (Below w.heap.size w w'))
    case atStart => exact ⟨(strOfNums y285), (0), (by first | rfl | (simp; done) | (simp [*]; done) | (simp [wrap64]; done)), (by first | rfl | (simp; done) | (simp [*]; done) | (simp [wrap64]; done)), (by first | with_reducible exact H' | exact H' | (subst_vars; exact H')), ⟨Nat.le_refl _⟩, ⟨by (with_reducible repeat (first | apply Kd.R_alloc | apply Kd.R_drewN | apply Kd.R_drew)); exact HO282.out⟩, ⟨by repeat (first | (with_reducible first | exact HB.out | apply below_alloc | apply pw_below_drewN | apply below_drew1) | exact HB.out)⟩⟩
    case round =>
      clear H'
      try clear c1
      try clear c2
      try clear p2
      try clear c3
      try clear c3b0
      try clear c3b1
      try clear hcv7
      obtain ⟨x7_1, x8_1, rfl, rfl, HA, HK1, HO_4, HB⟩ := hrel
      cases gk with
      | zero => exact absurd HA.out (by simp [sealringref04_Quote.l0])
      | succ k1 =>
        have H := HA.out
        clear HA
        simp only [sealringref04_Quote.l0] at H
        by_cases c8 : x8_1 < (t278.length : Int)
        · rw [if_pos c8] at H
          have c8b0 : decide (x8_1 < (t278.length : Int)) = true := decide_eq_true c8
          clear c8
          by_cases c9 : 0 ≤ x8_1
          · rw [if_pos c9] at H
            have c9b0 : decide (0 ≤ x8_1) = true := decide_eq_true c9
            clear c9
            replace H := Option.bind_eq_some_iff.mp H
            obtain ⟨t289, A100, H⟩ := H
            replace H : (if x7_1.size + t289.size ≤ 9223372036854775807 then (sealringref04_Quote.l0 k1 t278 (x7_1 ++ t289) (wrap64 (x8_1 + 1))) else (none)) = some (r1, r2) := H
            have A10 := Aside0.mk A100
            clear A100
            by_cases c11 : x7_1.size + t289.size ≤ 9223372036854775807
            · rw [if_pos c11] at H
              have c11b0 := eq_true c11
              have c11b1 : decide (x7_1.size + t289.size ≤ 9223372036854775807) = true := decide_eq_true c11
              try have c11b2 : (9223372036854775807 < x7_1.size + t289.size) = False := eq_false (Nat.not_lt.2 c11)
              have H' := Aside0.mk H
              clear H
              obtain ⟨Ao12, co12, eo12⟩ := Kd.R_slice HO_4.out
              subst eo12
              have p288 : 0 ≤ (x8_1 : Int) := of_decide_eq_true (by first | (with_reducible assumption) | assumption)
              have q288 : x8_1 < (t278.length : Int) := of_decide_eq_true (by first | (with_reducible assumption) | assumption)
              obtain ⟨ad288, e288, hx288_0⟩ := Kd.at_int (Kd.R_reads' HO_4.out).2.2 x8_1 p288 q288
              cases e288
              replace p288 := eq_true p288
              replace q288 := eq_true q288
              go_wp2_with (first | ((with_reducible refine gate_callee (f := 37) rfl ?_); refine goesL_ (some 32) rfl rfl Try.func37 (by kernel_rfl) rfl #[.int .i64 (rd t278 x8_1)] rfl (by (try simp only [List.map_toArray, List.map_cons, List.map_nil]); first | done | rfl | (simp only [List.length_drop, List.length_take]; rfl)) ?_; (with_reducible refine (sealringref04_one.calls k1 (rd t278 x8_1) t289 _ A10.out).mono ?_); rintro e w13 ⟨rfl, hb⟩; refine ⟨_, rfl, ?_⟩; have n0_ := Aside0.mk (Kd.R_below (by (with_reducible repeat (first | apply Kd.R_alloc | apply Kd.R_drewN | apply Kd.R_drew)); exact HO_4.out) hb); have n1_ := Aside0.mk (below_step (by repeat (first | (with_reducible first | exact HB.out | apply below_alloc | apply pw_below_drewN | apply below_drew1) | exact HB.out)) hb); clear HO_4; clear HB; have HO_4 := n0_; have HB := n1_; clear n0_ n1_; (try clear hb); (try clear hb2); (try clear hk); (try clear hi)))
              go_roundg k1
              case measure => have := HK1.out; omega
              case rel => exact ⟨(x7_1 ++ t289), (wrap64 (x8_1 + 1)), (by first | rfl | (simp; done) | (simp [*]; done) | (simp [wrap64]; done)), (by first | rfl | (simp; done) | (simp [*]; done) | (simp [wrap64]; done)), (by first | with_reducible exact H' | exact H' | (subst_vars; exact H')), ⟨by have := HK1.out; omega⟩, ⟨by (with_reducible repeat (first | apply Kd.R_alloc | apply Kd.R_drewN | apply Kd.R_drew)); exact HO_4.out⟩, ⟨by repeat (first | (with_reducible first | exact HB.out | apply below_alloc | apply pw_below_drewN | apply below_drew1) | exact HB.out)⟩⟩
            · rw [if_neg c11] at H
              exact absurd H (by simp)
          · rw [if_neg c9] at H
            exact absurd H (by simp)
        · rw [if_neg c8] at H
          have c8b0 : decide (x8_1 < (t278.length : Int)) = false := decide_eq_false c8
          clear c8
          obtain ⟨y290, hy290⟩ : ∃ y_ : List Int, y_ = (([34] : List Int)) := ⟨_, rfl⟩
          replace H : (if x7_1.size + (strOfNums y290).size ≤ 9223372036854775807 then (some (x7_1 ++ (strOfNums y290), 0)) else (none)) = some (r1, r2) := by first | (rw [hy290]; with_reducible exact H) | (have H2_ := (Option.bind_some _ _).symm.trans H; rw [hy290]; with_reducible exact H2_) | (have H2_ := (Option.bind_some _ _).symm.trans H; with_reducible exact H2_) | with_reducible exact H | (rw [hy290]; exact H) | exact H
          have Ny290 := Aside0.mk hy290
          clear hy290
          by_cases c14 : x7_1.size + (strOfNums y290).size ≤ 9223372036854775807
          · rw [if_pos c14] at H
            have c14b0 := eq_true c14
            have c14b1 : decide (x7_1.size + (strOfNums y290).size ≤ 9223372036854775807) = true := decide_eq_true c14
            try have c14b2 : (9223372036854775807 < x7_1.size + (strOfNums y290).size) = False := eq_false (Nat.not_lt.2 c14)
            simp only [Option.some.injEq, Prod.mk.injEq] at H
            obtain ⟨rfl, rfl⟩ := H
            obtain ⟨Ao15, co15, eo15⟩ := Kd.R_slice HO_4.out
            subst eo15
            go_wp2_with (first | ((with_reducible refine gate_dst (N := 35) rfl ?_); refine Kd.R_lit (Kd.int .u8) _ 5 ?hg (N := 35) ?hd (xs := ([34] : List Int)) (inner := [.int .u8 34]) (ok := fun _ => True) (okp := fun _ => True) ?hr ?hp (fun _ hk => hk) trivial (Below.refl _ _) (Nat.le_refl _) (by simp) ?_; (case hd => rfl); (case hg => rfl); (case hr => first | (go_simp; done) | (go_simp; rfl)); (case hp => exact (Reps.one (show Kd.M (Kd.int .u8) _ _ _ 34 [.int .u8 34] from rfl) (Reps.none _ _))); intro v291 w16 ho17 hb hg_ hnew_; clear hg_ hnew_; (first | rw [← Ny290.out] at ho17 | (simp only [Int.reduceToNat] at ho17; rw [← Ny290.out] at ho17)); have n0_ := Aside0.mk (Kd.R_below (by (with_reducible repeat (first | apply Kd.R_alloc | apply Kd.R_drewN | apply Kd.R_drew)); exact HO_4.out) hb); have n1_ := Aside0.mk (Kd.R_lower ho17 (below_size (by repeat (first | (with_reducible first | exact HB.out | apply below_alloc | apply pw_below_drewN | apply below_drew1) | exact HB.out)))); have n2_ := Aside0.mk (below_step (by repeat (first | (with_reducible first | exact HB.out | apply below_alloc | apply pw_below_drewN | apply below_drew1) | exact HB.out)) hb); clear HO_4; clear HB; have HO_4 := n0_; have HO292 := n1_; have HB := n2_; clear n0_ n1_ n2_; clear hb ho17; have hcv18 := own_string (P := Try.prog) Try.underlying54 Try.underlying5 Try.underlying9 (Kd.own_of_R HO292.out)))
            go_ret2
            exact ⟨by first | rfl | (simp [errW_none, errW_some] <;> rfl) | (simp [*, errW_none, errW_some] <;> rfl), by repeat (first | (with_reducible first | exact HB.out | apply below_alloc | apply pw_below_drewN | apply below_drew1) | exact HB.out)⟩
          · rw [if_neg c14] at H
            exact absurd H (by simp)
  · rw [if_neg c3] at H
    have c3b0 : (t280 == (a0.size : Int)) = false := beq_eq_false_iff_ne.mpr c3
    have c3b1 : (t280 != (a0.size : Int)) = true := bne_iff_ne.mpr c3
    simp only [Option.some.injEq, Prod.mk.injEq] at H
    obtain ⟨rfl, rfl⟩ := H
    go_enter Try.func25, Try.ntmps25
    go_wp2_with (first | ((with_reducible refine gate_callee (f := 18) rfl ?_); refine goesL_ (some 11) rfl rfl Try.func18 (by kernel_rfl) rfl #[.string a0] rfl (by (try simp only [List.map_toArray, List.map_cons, List.map_nil]); first | done | rfl | (simp only [List.length_drop, List.length_take]; rfl)) ?_; (with_reducible refine (sealringref03_All.calls k a0 t278 t279 t280 _ A2.out).mono ?_); rintro e w19 ⟨v281, v283, rfl, ho0, ho1, hb⟩; refine ⟨_, rfl, ?_⟩; have n0_ := Aside0.mk (Kd.R_lower ho0 (below_size (by repeat (first | (with_reducible first | exact HB.out | apply below_alloc | apply pw_below_drewN | apply below_drew1) | exact HB.out)))); have n1_ := Aside0.mk (Kd.R_lower ho1 (below_size (by repeat (first | (with_reducible first | exact HB.out | apply below_alloc | apply pw_below_drewN | apply below_drew1) | exact HB.out)))); have n2_ := Aside0.mk (below_step (by repeat (first | (with_reducible first | exact HB.out | apply below_alloc | apply pw_below_drewN | apply below_drew1) | exact HB.out)) hb); clear HB; have HO282 := n0_; have HO284 := n1_; have HB := n2_; clear n0_ n1_ n2_; (try clear hb); (try clear hb2); (try clear hk); (try clear hi); (try clear ho0); (try clear ho1)))
    go_ret2
    exact ⟨by first | rfl | (simp [errW_none, errW_some] <;> rfl) | (simp [*, errW_none, errW_some] <;> rfl), by repeat (first | (with_reducible first | exact HB.out | apply below_alloc | apply pw_below_drewN | apply below_drew1) | exact HB.out)⟩
end Go.Proofs.Ytijfbnkohnlmaaa.X
end
section
namespace Go.Proofs.Ytijfbnkohnlmaaa.X
open Go.RowKit Go.Proofs.YtijfbnkohnlmaaaW.PrintWords Go.Proofs.YtijfbnkohnlmaaaW.PrintLast Go.Proofs.YtijfbnkohnlmaaaW.PrintMore
attribute [local go_sem] max2_int min2_int max_two min_two max_three min_three max_four min_four
set_option linter.unusedVariables false
set_option linter.unusedSimpArgs false
def esc_Size.l0 : Nat → ByteArray → Int → Int → Int → Option (Int)
  | 0, _, _, _, _ => none
  | k + 1, x0, x3, x12, x13 => if x13 < x12 then (if 0 ≤ x13 then (if x13 < (x0.size : Int) then ((esc_letter.f k (wrap32 (bt x0 x13))).bind fun t294 => (if t294 = 0 then (if (bt x0 x13) < 32 then (esc_Size.l0 k x0 (wrap64 (x3 + 5)) x12 (wrap64 (x13 + 1))) else (esc_Size.l0 k x0 x3 x12 (wrap64 (x13 + 1)))) else (esc_Size.l0 k x0 (wrap64 (x3 + 1)) x12 (wrap64 (x13 + 1))))) else (none)) else (none)) else (some x3)
def esc_Size.f (k : Nat) (a0 : ByteArray) : Option (Int) := (utf_Valid.f k a0).bind fun t293 => (if t293 = true then (esc_Size.l0 k a0 (wrap64 (2 + (a0.size : Int))) (a0.size : Int) 0) else (some 0))
theorem esc_Size.mono_l : ∀ k, (∀ y0 y1 y2 y3, LeO (esc_Size.l0 k y0 y1 y2 y3) (esc_Size.l0 (k + 1) y0 y1 y2 y3))
  | 0 => fun _ _ _ _ r h => by simp [esc_Size.l0] at h
  | k + 1 => by
    have ih0 := esc_Size.mono_l k
    · intro y0 y1 y2 y3
      unfold esc_Size.l0
      repeat' first
      | (with_reducible exact ih0 _ _ _ _)
      | (with_reducible exact esc_letter.mono _ _)
      | (with_reducible exact utf_Valid.mono _ _)
      | (with_reducible exact LeO.refl _)
      | (with_reducible exact LeO.none _)
      | (with_reducible refine LeO.ite ?_ ?_)
      | (with_reducible refine LeO.bind ?_ (fun _ => ?_))
      | exact ih0 _ _ _ _
      | exact esc_letter.mono _ _
      | exact utf_Valid.mono _ _
      | exact LeO.none _
      | refine LeO.ite ?_ ?_
      | refine LeO.bind ?_ (fun _ => ?_)
theorem esc_Size.mono : ∀ a0 k, LeO (esc_Size.f k a0) (esc_Size.f (k + 1) a0) := by
  intro a0 k
  have ih0 := esc_Size.mono_l k
  unfold esc_Size.f
  repeat' first
      | (with_reducible exact ih0 _ _ _ _)
      | (with_reducible exact esc_letter.mono _ _)
      | (with_reducible exact utf_Valid.mono _ _)
      | (with_reducible exact LeO.refl _)
      | (with_reducible exact LeO.none _)
      | (with_reducible refine LeO.ite ?_ ?_)
      | (with_reducible refine LeO.bind ?_ (fun _ => ?_))
      | exact ih0 _ _ _ _
      | exact esc_letter.mono _ _
      | exact utf_Valid.mono _ _
      | exact LeO.none _
      | refine LeO.ite ?_ ?_
      | refine LeO.bind ?_ (fun _ => ?_)
set_option maxHeartbeats 8000000 in
set_option maxRecDepth 100000 in
theorem esc_Size.calls (k : Nat) (a0 : ByteArray) (r : Int) (w : World) (h : esc_Size.f k a0 = some r) :
    Calls Try.prog 26 #[.string a0] w fun e w' => e = .returned (.int .i64 r) ∧ Below w.heap.size w w' := by
  have HB := Aside0.mk (Below.refl w.heap.size w)
  have H : ((utf_Valid.f k a0).bind fun t293 => (if t293 = true then (esc_Size.l0 k a0 (wrap64 (2 + (a0.size : Int))) (a0.size : Int) 0) else (some 0))) = some r := h
  clear h
  replace H := Option.bind_eq_some_iff.mp H
  obtain ⟨t293, A20, H⟩ := H
  replace H : (if t293 = true then (esc_Size.l0 k a0 (wrap64 (2 + (a0.size : Int))) (a0.size : Int) 0) else (some 0)) = some r := H
  have A2 := Aside0.mk A20
  clear A20
  by_cases c3 : t293 = true
  · subst c3
    have H1 : (esc_Size.l0 k a0 (wrap64 (2 + (a0.size : Int))) (a0.size : Int) 0) = some r := by rw [if_pos rfl] at H; exact H
    clear H
    have H := H1
    clear H1
    have H' := Aside0.mk H
    clear H
    go_enter Try.func26, Try.ntmps26
    go_wp2_with (first | ((with_reducible refine gate_callee (f := 14) rfl ?_); refine goesL_ (some 6) rfl rfl Try.func14 (by kernel_rfl) rfl #[.string a0] rfl (by (try simp only [List.map_toArray, List.map_cons, List.map_nil]); first | done | rfl | (simp only [List.length_drop, List.length_take]; rfl)) ?_; (with_reducible refine (utf_Valid.calls k a0 true _ A2.out).mono ?_); rintro e w4 ⟨rfl, hb⟩; refine ⟨_, rfl, ?_⟩; have n0_ := Aside0.mk (below_step (by repeat (first | (with_reducible first | exact HB.out | apply below_alloc | apply pw_below_drewN | apply below_drew1) | exact HB.out)) hb); clear HB; have HB := n0_; clear n0_; (try clear hb); (try clear hb2); (try clear hk); (try clear hi)))
    (try simp only [Go.IntKind.wrap_u8])
    go_loopg [3, 13] k (fun kq v3 v13 w' => ∃ (x3_1 : Int) (x13_1 : Int), v3 = .int .i64 x3_1 ∧ v13 = .int .i64 x13_1 ∧ Aside0 (esc_Size.l0 kq a0 x3_1 (a0.size : Int) x13_1 = some r) ∧ Aside0 (kq ≤ k) ∧ Aside0 (Below w.heap.size w w'))
    case atStart => exact ⟨(wrap64 (2 + (a0.size : Int))), (0), (by first | rfl | (simp; done) | (simp [*]; done) | (simp [wrap64]; done)), (by first | rfl | (simp; done) | (simp [*]; done) | (simp [wrap64]; done)), (by first | with_reducible exact H' | exact H' | (subst_vars; exact H')), ⟨Nat.le_refl _⟩, ⟨by repeat (first | (with_reducible first | exact HB.out | apply below_alloc | apply pw_below_drewN | apply below_drew1) | exact HB.out)⟩⟩
    case round =>
      clear H'
      try clear c1
      try clear c2
      try clear p2
      try clear c3
      obtain ⟨x3_1, x13_1, rfl, rfl, HA, HK1, HB⟩ := hrel
      cases gk with
      | zero => exact absurd HA.out (by simp [esc_Size.l0])
      | succ k1 =>
        have H := HA.out
        clear HA
        simp only [esc_Size.l0] at H
        by_cases c5 : x13_1 < (a0.size : Int)
        · rw [if_pos c5] at H
          have c5b0 : decide (x13_1 < (a0.size : Int)) = true := decide_eq_true c5
          clear c5
          by_cases c6 : 0 ≤ x13_1
          · rw [if_pos c6] at H
            have c6b0 : decide (0 ≤ x13_1) = true := decide_eq_true c6
            clear c6
            by_cases c7 : x13_1 < (a0.size : Int)
            · rw [if_pos c7] at H
              have c7b0 : decide (x13_1 < (a0.size : Int)) = true := decide_eq_true c7
              clear c7
              replace H := Option.bind_eq_some_iff.mp H
              obtain ⟨t294, A90, H⟩ := H
              replace H : (if t294 = 0 then (if (bt a0 x13_1) < 32 then (esc_Size.l0 k1 a0 (wrap64 (x3_1 + 5)) (a0.size : Int) (wrap64 (x13_1 + 1))) else (esc_Size.l0 k1 a0 x3_1 (a0.size : Int) (wrap64 (x13_1 + 1)))) else (esc_Size.l0 k1 a0 (wrap64 (x3_1 + 1)) (a0.size : Int) (wrap64 (x13_1 + 1)))) = some r := H
              have A9 := Aside0.mk A90
              clear A90
              by_cases c10 : t294 = 0
              · rw [if_pos c10] at H
                have c10b0 : (t294 == 0) = true := beq_iff_eq.mpr c10
                have c10b1 : (t294 != 0) = false := bne_eq_false_iff_eq.mpr c10
                clear c10
                by_cases c12 : (bt a0 x13_1) < 32
                · rw [if_pos c12] at H
                  have c12b0 : decide ((bt a0 x13_1) < 32) = true := decide_eq_true c12
                  clear c12
                  have H' := Aside0.mk H
                  clear H
                  have p8 : 0 ≤ (x13_1 : Int) := of_decide_eq_true (by first | (with_reducible assumption) | assumption)
                  have q8 : x13_1 < (a0.size : Int) := of_decide_eq_true (by first | (with_reducible assumption) | assumption)
                  have hx8 := bt_at a0 x13_1
                  replace p8 := eq_true p8
                  replace q8 := eq_true q8
                  go_wp2_with (first | ((with_reducible refine gate_callee (f := 36) rfl ?_); refine goesL_ (some 21) rfl rfl Try.func36 (by kernel_rfl) rfl #[.int .i32 (wrap32 (bt a0 x13_1))] rfl (by (try simp only [List.map_toArray, List.map_cons, List.map_nil]); first | done | rfl | (simp only [List.length_drop, List.length_take]; rfl)) ?_; (with_reducible refine (esc_letter.calls k1 (wrap32 (bt a0 x13_1)) t294 _ A9.out).mono ?_); rintro e w' ⟨rfl, ⟨nd, rfl⟩⟩; refine ⟨_, rfl, ?_⟩; have p11 : 0 ≤ (x13_1 : Int) := of_decide_eq_true (by first | (with_reducible assumption) | assumption); have q11 : x13_1 < (a0.size : Int) := of_decide_eq_true (by first | (with_reducible assumption) | assumption); have hx11 := bt_at a0 x13_1; replace p11 := eq_true p11; replace q11 := eq_true q11))
                  go_roundg k1
                  case measure => have := HK1.out; omega
                  case rel => exact ⟨(wrap64 (x3_1 + 5)), (wrap64 (x13_1 + 1)), (by first | rfl | (simp; done) | (simp [*]; done) | (simp [wrap64]; done)), (by first | rfl | (simp; done) | (simp [*]; done) | (simp [wrap64]; done)), (by first | with_reducible exact H' | exact H' | (subst_vars; exact H')), ⟨by have := HK1.out; omega⟩, ⟨by repeat (first | (with_reducible first | exact HB.out | apply below_alloc | apply pw_below_drewN | apply below_drew1) | exact HB.out)⟩⟩
                · rw [if_neg c12] at H
                  have c12b0 : decide ((bt a0 x13_1) < 32) = false := decide_eq_false c12
                  clear c12
                  have H' := Aside0.mk H
                  clear H
                  have p8 : 0 ≤ (x13_1 : Int) := of_decide_eq_true (by first | (with_reducible assumption) | assumption)
                  have q8 : x13_1 < (a0.size : Int) := of_decide_eq_true (by first | (with_reducible assumption) | assumption)
                  have hx8 := bt_at a0 x13_1
                  replace p8 := eq_true p8
                  replace q8 := eq_true q8
                  go_wp2_with (first | ((with_reducible refine gate_callee (f := 36) rfl ?_); refine goesL_ (some 21) rfl rfl Try.func36 (by kernel_rfl) rfl #[.int .i32 (wrap32 (bt a0 x13_1))] rfl (by (try simp only [List.map_toArray, List.map_cons, List.map_nil]); first | done | rfl | (simp only [List.length_drop, List.length_take]; rfl)) ?_; (with_reducible refine (esc_letter.calls k1 (wrap32 (bt a0 x13_1)) t294 _ A9.out).mono ?_); rintro e w' ⟨rfl, ⟨nd, rfl⟩⟩; refine ⟨_, rfl, ?_⟩; have p11 : 0 ≤ (x13_1 : Int) := of_decide_eq_true (by first | (with_reducible assumption) | assumption); have q11 : x13_1 < (a0.size : Int) := of_decide_eq_true (by first | (with_reducible assumption) | assumption); have hx11 := bt_at a0 x13_1; replace p11 := eq_true p11; replace q11 := eq_true q11))
                  go_roundg k1
                  case measure => have := HK1.out; omega
                  case rel => exact ⟨(x3_1), (wrap64 (x13_1 + 1)), (by first | rfl | (simp; done) | (simp [*]; done) | (simp [wrap64]; done)), (by first | rfl | (simp; done) | (simp [*]; done) | (simp [wrap64]; done)), (by first | with_reducible exact H' | exact H' | (subst_vars; exact H')), ⟨by have := HK1.out; omega⟩, ⟨by repeat (first | (with_reducible first | exact HB.out | apply below_alloc | apply pw_below_drewN | apply below_drew1) | exact HB.out)⟩⟩
              · rw [if_neg c10] at H
                have c10b0 : (t294 == 0) = false := beq_eq_false_iff_ne.mpr c10
                have c10b1 : (t294 != 0) = true := bne_iff_ne.mpr c10
                have H' := Aside0.mk H
                clear H
                have p8 : 0 ≤ (x13_1 : Int) := of_decide_eq_true (by first | (with_reducible assumption) | assumption)
                have q8 : x13_1 < (a0.size : Int) := of_decide_eq_true (by first | (with_reducible assumption) | assumption)
                have hx8 := bt_at a0 x13_1
                replace p8 := eq_true p8
                replace q8 := eq_true q8
                go_wp2_with (first | ((with_reducible refine gate_callee (f := 36) rfl ?_); refine goesL_ (some 21) rfl rfl Try.func36 (by kernel_rfl) rfl #[.int .i32 (wrap32 (bt a0 x13_1))] rfl (by (try simp only [List.map_toArray, List.map_cons, List.map_nil]); first | done | rfl | (simp only [List.length_drop, List.length_take]; rfl)) ?_; (with_reducible refine (esc_letter.calls k1 (wrap32 (bt a0 x13_1)) t294 _ A9.out).mono ?_); rintro e w' ⟨rfl, ⟨nd, rfl⟩⟩; refine ⟨_, rfl, ?_⟩))
                go_roundg k1
                case measure => have := HK1.out; omega
                case rel => exact ⟨(wrap64 (x3_1 + 1)), (wrap64 (x13_1 + 1)), (by first | rfl | (simp; done) | (simp [*]; done) | (simp [wrap64]; done)), (by first | rfl | (simp; done) | (simp [*]; done) | (simp [wrap64]; done)), (by first | with_reducible exact H' | exact H' | (subst_vars; exact H')), ⟨by have := HK1.out; omega⟩, ⟨by repeat (first | (with_reducible first | exact HB.out | apply below_alloc | apply pw_below_drewN | apply below_drew1) | exact HB.out)⟩⟩
            · rw [if_neg c7] at H
              exact absurd H (by simp)
          · rw [if_neg c6] at H
            exact absurd H (by simp)
        · rw [if_neg c5] at H
          have c5b0 : decide (x13_1 < (a0.size : Int)) = false := decide_eq_false c5
          clear c5
          obtain rfl := Option.some.inj H
          go_wp2
          go_ret
          exact ⟨by first | rfl | (simp [errW_none, errW_some] <;> rfl) | (simp [*, errW_none, errW_some] <;> rfl), by repeat (first | (with_reducible first | exact HB.out | apply below_alloc | apply pw_below_drewN | apply below_drew1) | exact HB.out)⟩
  · replace c3 := Bool.eq_false_iff.mpr c3
    subst c3
    have H1 : (some 0) = some r := by rw [if_neg (show ¬ (false = true) by decide)] at H; exact H
    clear H
    have H := H1
    clear H1
    obtain rfl := Option.some.inj H
    go_enter Try.func26, Try.ntmps26
    go_wp2_with (first | ((with_reducible refine gate_callee (f := 14) rfl ?_); refine goesL_ (some 6) rfl rfl Try.func14 (by kernel_rfl) rfl #[.string a0] rfl (by (try simp only [List.map_toArray, List.map_cons, List.map_nil]); first | done | rfl | (simp only [List.length_drop, List.length_take]; rfl)) ?_; (with_reducible refine (utf_Valid.calls k a0 false _ A2.out).mono ?_); rintro e w13 ⟨rfl, hb⟩; refine ⟨_, rfl, ?_⟩; have n0_ := Aside0.mk (below_step (by repeat (first | (with_reducible first | exact HB.out | apply below_alloc | apply pw_below_drewN | apply below_drew1) | exact HB.out)) hb); clear HB; have HB := n0_; clear n0_; (try clear hb); (try clear hb2); (try clear hk); (try clear hi)))
    go_ret
    exact ⟨by first | rfl | (simp [errW_none, errW_some] <;> rfl) | (simp [*, errW_none, errW_some] <;> rfl), by repeat (first | (with_reducible first | exact HB.out | apply below_alloc | apply pw_below_drewN | apply below_drew1) | exact HB.out)⟩
end Go.Proofs.Ytijfbnkohnlmaaa.X
end
section
namespace Go.Proofs.Ytijfbnkohnlmaaa.X
open Go.RowKit Go.Proofs.YtijfbnkohnlmaaaW.PrintWords Go.Proofs.YtijfbnkohnlmaaaW.PrintLast Go.Proofs.YtijfbnkohnlmaaaW.PrintMore
set_option linter.unusedVariables false
set_option linter.unusedSimpArgs false
def hexC (d : Int) : Int := if d < 10 then 48 + d else 87 + d
def digB : ByteArray := ⟨#[48, 49, 50, 51, 52, 53, 54, 55, 56, 57, 97, 98, 99, 100, 101, 102]⟩
theorem digB_at : ∀ d : Fin 16, bt digB (d.val : Int) = hexC (d.val : Int) := by decide +kernel
theorem hexC_at {d : Int} (h0 : 0 ≤ d) (h1 : d < 16) : bt digB d = hexC d := by
  have := digB_at ⟨d.toNat, by omega⟩
  simp only at this
  rwa [show ((d.toNat : Nat) : Int) = d by omega] at this
theorem and15 : ∀ c : Fin 256, Go.bits .and .u8 (c.val : Int) 15 = (c.val : Int) % 16 := by decide +kernel
theorem and15' {c : Int} (h0 : 0 ≤ c) (h1 : c ≤ 255) : Go.bits .and .u8 c 15 = c % 16 := by
  have := and15 ⟨c.toNat, by omega⟩
  simp only at this
  rwa [show ((c.toNat : Nat) : Int) = c by omega] at this
theorem letter_ev (c : Int) (h0 : 0 ≤ c) (h1 : c ≤ 255) : Ev (fun k => esc_letter.f k c) (smallP c) := by
  unfold esc_letter.f
  by_cases c1 : c = 34
  · refine evPos c1 (Ev.step (f := fun _ => some 34) (fun k => ?_) ?_)
    · rw [esc_letter.j0, if_pos (by simp [c1]), c1]; rfl
    · subst c1; exact Ev.now _
  · refine evNeg c1 ?_
    by_cases c2 : c = 92
    · refine Ev.step (f := fun _ => some 92) (fun k => ?_) ?_
      · rw [esc_letter.j0, if_pos (by simp [c2]), c2]; rfl
      · subst c2; exact Ev.now _
    · refine Ev.step (f := fun _ => some (smallP c)) (fun k => ?_) (Ev.now _)
      rw [esc_letter.j0, if_neg (by simp [c2])]
      unfold smallP
      rw [if_neg (show ¬ (c = 34 ∨ c = 92) by omega)]
      repeat' split
      all_goals rfl
def qb (c : Int) : List Int := if smallP c = 0 then (if c < 32 then [92, 117, 48, 48, hexC (c / 16), hexC (c % 16)] else [c]) else [92, smallP c]
def oneL (n : Int) : List Int := if smallP n = 0 then (if n < 32 then [92, 117, 48, 48, hexC (n / 16), hexC (n % 16)] else formL n) else [92, smallP n]
theorem qb_len (c : Int) : 1 ≤ (qb c).length ∧ (qb c).length ≤ 6 := by
  unfold qb
  repeat' split
  all_goals simp
theorem oneL_len (c : Int) : 1 ≤ (oneL c).length ∧ (oneL c).length ≤ 6 := by
  unfold oneL
  have := formL_le c
  repeat' split
  all_goals first | omega | (simp; done)
def bl (s : ByteArray) : Nat → Nat → List Int
  | 0, _ => []
  | d + 1, i => bt s (i : Int) :: bl s d (i + 1)
theorem bl_len (s : ByteArray) : ∀ d i, (bl s d i).length = d
  | 0, _ => rfl
  | d + 1, i => by rw [bl, List.length_cons, bl_len s d]
theorem bl_append (s : ByteArray) : ∀ n m i, bl s (n + m) i = bl s n i ++ bl s m (i + n)
  | 0, m, i => by simp [bl]
  | n + 1, m, i => by
    rw [show n + 1 + m = (n + m) + 1 by omega, bl, bl, bl_append s n m (i + 1), show i + 1 + n = i + (n + 1) by omega]
    rfl
theorem flat_le {α : Type} (g : α → List Int) (b : Nat) (h : ∀ x, (g x).length ≤ b) : ∀ l : List α, (l.flatMap g).length ≤ b * l.length
  | [] => by simp
  | x :: l => by
    have := h x
    have h2 := flat_le g b h l
    rw [List.flatMap_cons, List.length_append, List.length_cons, Nat.mul_add]
    omega
section
variable (s : ByteArray) (hs : s.size ≤ 17592186044000)
include hs
theorem Quote_go : ∀ (d i : Nat) (acc : List Int), d + i = s.size → acc.length ≤ 6 * i + 1 → Ev (fun k => esc_Quote.l0 k s acc (s.size : Int) (i : Int)) (strOfNums (acc ++ (bl s d i).flatMap qb ++ [34]), 0) := by
  intro d
  induction d with
  | zero =>
    intro i acc hi ha
    refine Ev.step (f := fun _ => some (strOfNums (acc ++ [34]), 0)) (fun k => ?_) ?_
    · rw [esc_Quote.l0, if_neg (by omega), if_pos (by omega)]
    · simpa [bl] using Ev.now (strOfNums (acc ++ [34]), (0 : Int))
  | succ d ih =>
    intro i acc hi ha
    have bb := bt_range s (i : Int)
    have hw : wrap32 (bt s (i : Int)) = bt s (i : Int) := by unfold wrap32; omega
    have hn := ih (i + 1) (acc ++ qb (bt s (i : Int))) (by omega) (by have := (qb_len (bt s (i : Int))).2; rw [List.length_append]; omega)
    have hgoal : strOfNums (acc ++ (bl s (d + 1) i).flatMap qb ++ [34]) = strOfNums (acc ++ qb (bt s (i : Int)) ++ (bl s d (i + 1)).flatMap qb ++ [34]) := by simp [bl]
    rw [hgoal]
    have hwi : wrap64 ((i : Int) + 1) = ((i + 1 : Nat) : Int) := w64s i (by omega)
    refine Ev.step (f := fun k => (esc_letter.f k (bt s (i : Int))).bind fun t197 => (if t197 = 0 then (if (bt s (i : Int)) < 32 then (if 0 ≤ ((bt s (i : Int)) / 16) then (if ((bt s (i : Int)) / 16) < 16 then (if 0 ≤ (Go.bits .and .u8 (bt s (i : Int)) 15) then (if (Go.bits .and .u8 (bt s (i : Int)) 15) < 16 then ((some (([92, 117, 48, 48, bt digB ((bt s (i : Int)) / 16), bt digB (Go.bits .and .u8 (bt s (i : Int)) 15)] : List Int) : List Int)).bind fun y198 => (if acc.length + y198.length < 140737488355328 then (esc_Quote.l0 k s (acc ++ y198) (s.size : Int) (wrap64 ((i : Int) + 1))) else (none))) else (none)) else (none)) else (none)) else (none)) else (if acc.length < 140737488355328 then (esc_Quote.l0 k s (acc ++ [bt s (i : Int)]) (s.size : Int) (wrap64 ((i : Int) + 1))) else (none))) else ((some (([92, t197] : List Int) : List Int)).bind fun y207 => (if acc.length + y207.length < 140737488355328 then (esc_Quote.l0 k s (acc ++ y207) (s.size : Int) (wrap64 ((i : Int) + 1))) else (none))))) (fun k => ?_) ?_
    · rw [esc_Quote.l0, if_pos (by omega), if_pos (by omega), if_pos (by omega), hw]
      rfl
    · refine Ev.bind (letter_ev _ bb.1 bb.2) ?_
      rw [hwi]
      unfold qb at hn
      unfold qb
      generalize bt s (i : Int) = c at *
      by_cases c1 : smallP c = 0
      · rw [if_pos c1] at hn ⊢
        refine evPos c1 ?_
        by_cases c2 : c < 32
        · rw [if_pos c2] at hn ⊢
          rw [and15' bb.1 bb.2, hexC_at (d := c / 16) (by omega) (by omega), hexC_at (d := c % 16) (by omega) (by omega)]
          refine evPos c2 (evPos (by omega) (evPos (by omega) (evPos (by omega) (evPos (by omega) ?_))))
          exact evPos (by simp; omega) hn
        · rw [if_neg c2] at hn ⊢
          exact evNeg c2 (evPos (by omega) hn)
      · rw [if_neg c1] at hn ⊢
        exact evNeg c1 (evPos (by simp; omega) hn)
def quoteS (s : ByteArray) : ByteArray × Int := if endOf s = s.size then (strOfNums ([34] ++ (bl s s.size 0).flatMap qb ++ [34]), 0) else (⟨#[]⟩, 10)
theorem Quote_ev : Ev (fun k => esc_Quote.f k s) (quoteS s) := by
  unfold esc_Quote.f quoteS
  refine Ev.bind (Valid_ev s (by omega)) ?_
  by_cases c : endOf s = s.size
  · rw [if_pos c]
    exact evPos (decide_eq_true c) (Quote_go s hs s.size 0 [34] (by omega) (by simp))
  · rw [if_neg c]
    exact evNeg (by simp [c]) (Ev.now _)
end
theorem bl_form {s : ByteArray} {a : Nat} {v : Int} {n : Nat} (h : dec s a = some (v, n)) : bl s n a = formL v ∧ (formL v).length = n := by
  obtain ⟨h1, h2, h3, h4⟩ := dec_form h
  unfold formL
  rcases h4 with ⟨rfl, p, q, e⟩ | ⟨rfl, p, q, e, e1⟩ | ⟨rfl, p, q, e, e1, e2⟩ | ⟨rfl, p, q, e, e1, e2, e3⟩
  · rw [if_pos q]
    show [bt s (a : Int)] = _ ∧ _
    rw [e]; exact ⟨rfl, rfl⟩
  · rw [if_neg (by omega), if_pos q]
    show [bt s (a : Int), bt s ((a + 1 : Nat) : Int)] = _ ∧ _
    rw [e, e1]; exact ⟨rfl, rfl⟩
  · rw [if_neg (by omega), if_neg (by omega), if_pos q]
    show [bt s (a : Int), bt s ((a + 1 : Nat) : Int), bt s ((a + 2 : Nat) : Int)] = _ ∧ _
    rw [e, e1, e2]; exact ⟨rfl, rfl⟩
  · rw [if_neg (by omega), if_neg (by omega), if_neg (by omega)]
    show [bt s (a : Int), bt s ((a + 1 : Nat) : Int), bt s ((a + 2 : Nat) : Int), bt s ((a + 3 : Nat) : Int)] = _ ∧ _
    rw [e, e1, e2, e3]; exact ⟨rfl, rfl⟩
theorem dec_isv {s : ByteArray} {a : Nat} {v : Int} {n : Nat} (h : dec s a = some (v, n)) : isv v = true := by
  have hdf := dec_form h
  have hdr := dec_range h
  have := (isv_sz v).2
  by_cases hv : isv v = true
  · exact hv
  · exact absurd (this (by simpa using hv)) (by omega)
theorem decs_isv (s : ByteArray) : ∀ (f a : Nat), ((decs s f a).1.map (·.2)).all isv = true
  | 0, a => rfl
  | f + 1, a => by
    cases hd : dec s a with
    | none => simp only [decs, hd]; rfl
    | some vn =>
      obtain ⟨v, n⟩ := vn
      have h1 := decs_isv s f (a + n)
      simp only [decs, hd, List.map_cons, List.all_cons, h1, dec_isv hd, Bool.and_self]
theorem decs_bl (s : ByteArray) : ∀ (f a : Nat), (decs s f a).2 = a + ((putL ((decs s f a).1.map (·.2))).length) ∧ bl s ((putL ((decs s f a).1.map (·.2))).length) a = putL ((decs s f a).1.map (·.2))
  | 0, a => ⟨rfl, rfl⟩
  | f + 1, a => by
    cases hd : dec s a with
    | none => simp only [decs, hd]; exact ⟨rfl, rfl⟩
    | some vn =>
      obtain ⟨v, n⟩ := vn
      obtain ⟨h1, h2⟩ := decs_bl s f (a + n)
      obtain ⟨h3, h4⟩ := bl_form hd
      simp only [decs, hd, List.map_cons, putL_cons, List.length_append, h4]
      refine ⟨by rw [h1]; omega, ?_⟩
      rw [bl_append, h3, h2]
def codes (s : ByteArray) : List Int := (allOf s).map (·.2)
theorem codes_isv (s : ByteArray) : (codes s).all isv = true := decs_isv s _ _
theorem valid_bl {s : ByteArray} (h : endOf s = s.size) : bl s s.size 0 = putL (codes s) := by
  have := decs_bl s (s.size + 1) 0
  unfold endOf at h
  rw [h] at this
  obtain ⟨h1, h2⟩ := this
  rw [Nat.zero_add] at h1
  unfold codes allOf
  rw [← h1] at h2
  exact h2
theorem qb_high {c : Int} (h : 128 ≤ c) : qb c = [c] := by
  unfold qb smallP
  rw [if_neg (show ¬ (c = 34 ∨ c = 92) by omega), if_neg (show ¬ c = 8 by omega), if_neg (show ¬ c = 9 by omega), if_neg (show ¬ c = 10 by omega), if_neg (show ¬ c = 12 by omega), if_neg (show ¬ c = 13 by omega), if_pos rfl, if_neg (by omega)]
theorem qb_highs : ∀ l : List Int, (∀ x ∈ l, 128 ≤ x) → l.flatMap qb = l
  | [], _ => rfl
  | x :: l, h => by rw [List.flatMap_cons, qb_high (h x (by simp)), qb_highs l (fun y hy => h y (by simp [hy]))]; rfl
theorem form_qb {v : Int} (hv : isv v = true) : (formL v).flatMap qb = oneL v := by
  have hr := isv_iff.1 hv
  by_cases c1 : v < 128
  · have e : formL v = [v] := by unfold formL; rw [if_pos c1]
    rw [e]
    unfold oneL
    rw [e]
    simp [qb]
  · have hs : smallP v = 0 := by
      unfold smallP
      rw [if_neg (show ¬ (v = 34 ∨ v = 92) by omega), if_neg (show ¬ v = 8 by omega), if_neg (show ¬ v = 9 by omega), if_neg (show ¬ v = 10 by omega), if_neg (show ¬ v = 12 by omega), if_neg (show ¬ v = 13 by omega)]
    have e : oneL v = formL v := by unfold oneL; rw [if_pos hs, if_neg (by omega)]
    rw [e]
    apply qb_highs
    intro x hx
    unfold formL at hx
    rw [if_neg c1] at hx
    split at hx
    · simp at hx; omega
    · split at hx
      · simp at hx; omega
      · simp at hx; omega
theorem put_qb : ∀ l : List Int, l.all isv = true → (putL l).flatMap qb = l.flatMap oneL
  | [], _ => rfl
  | v :: l, h => by
    simp only [List.all_cons, Bool.and_eq_true] at h
    rw [putL_cons, List.flatMap_append, form_qb h.1, put_qb l h.2, List.flatMap_cons]
theorem quoteS_codes (s : ByteArray) : quoteS s = if endOf s = s.size then (strOfNums ([34] ++ (codes s).flatMap oneL ++ [34]), 0) else (⟨#[]⟩, 10) := by
  unfold quoteS
  by_cases c : endOf s = s.size
  · rw [if_pos c, if_pos c, valid_bl c, put_qb _ (codes_isv s)]
  · rw [if_neg c, if_neg c]
end Go.Proofs.Ytijfbnkohnlmaaa.X
end
section
namespace Go.Proofs.Ytijfbnkohnlmaaa.X
open Go.RowKit Go.Proofs.YtijfbnkohnlmaaaW.PrintWords Go.Proofs.YtijfbnkohnlmaaaW.PrintLast Go.Proofs.YtijfbnkohnlmaaaW.PrintMore
set_option linter.unusedVariables false
set_option linter.unusedSimpArgs false
theorem hexD_C : ∀ d : Fin 16, hexD (hexC (d.val : Int)) = some (d.val : Int) := by decide +kernel
theorem hexD_C' {d : Int} (h0 : 0 ≤ d) (h1 : d < 16) : hexD (hexC d) = some d := by
  have := hexD_C ⟨d.toNat, by omega⟩
  simp only at this
  rwa [show ((d.toNat : Nat) : Int) = d by omega] at this
theorem short_small {n : Int} (h : smallP n ≠ 0) : shortP (smallP n) = some n := by
  unfold smallP at h ⊢
  by_cases c0 : n = 34 ∨ n = 92
  · rw [if_pos c0]
    rcases c0 with rfl | rfl <;> decide
  · rw [if_neg c0] at h ⊢
    repeat' split
    all_goals first | (subst_vars; decide) | skip
    simp_all
theorem hexC_range {d : Int} (h0 : 0 ≤ d) (h1 : d < 16) : isU8 (hexC d) := by
  unfold hexC isU8
  split <;> omega
theorem oneL_u8 {v : Int} (hv : isv v = true) : ∀ x ∈ oneL v, isU8 x := by
  have hr := isv_iff.1 hv
  intro x hx
  unfold oneL at hx
  by_cases c1 : smallP v = 0
  · rw [if_pos c1] at hx
    by_cases c2 : v < 32
    · rw [if_pos c2] at hx
      simp only [List.mem_cons, List.not_mem_nil, or_false] at hx
      rcases hx with rfl | rfl | rfl | rfl | rfl | rfl
      · exact ⟨by omega, by omega⟩
      · exact ⟨by omega, by omega⟩
      · exact ⟨by omega, by omega⟩
      · exact ⟨by omega, by omega⟩
      · exact hexC_range (by omega) (by omega)
      · exact hexC_range (by omega) (by omega)
    · rw [if_neg c2] at hx
      exact formL_all8 hv x hx
  · rw [if_neg c1] at hx
    simp only [List.mem_cons, List.not_mem_nil, or_false] at hx
    rcases hx with rfl | rfl
    · exact ⟨by omega, by omega⟩
    · unfold smallP
      split
      · exact ⟨by omega, by omega⟩
      · repeat' split
        all_goals exact ⟨by omega, by omega⟩
theorem at_pre {X pre L tail : List Int} (hX : X = pre ++ L ++ tail) (hu : ∀ x ∈ X, isU8 x) (i : Nat) (hi : i < L.length) : bt (strOfNums X) ((pre.length + i : Nat) : Int) = L[i] := by
  subst hX
  have hlt : pre.length + i < (pre ++ L ++ tail).length := by simp; omega
  rw [son_bt _ _ hlt (hu _ (List.getElem_mem _))]
  rw [List.getElem_append_left (by simp; omega), List.getElem_append_right (by omega)]
  simp
theorem text_one {X pre tail acc : List Int} {v : Int} (hv : isv v = true) (hX : X = pre ++ oneL v ++ tail) (hu : ∀ x ∈ X, isU8 x) (f : Nat) :
    textP (strOfNums X) (f + 1) (pre.length : Int) acc = textP (strOfNums X) f ((pre.length + (oneL v).length : Nat) : Int) (acc ++ formL v) := by
  have hr := isv_iff.1 hv
  have hsz : (strOfNums X).size = pre.length + (oneL v).length + tail.length := by rw [son_size, hX]; simp; omega
  have h1 := (oneL_len v).1
  have at_ := at_pre hX hu
  generalize ht : strOfNums X = t at *
  have hlt : (pre.length : Int) < (t.size : Int) := by omega
  simp only [textP]
  rw [if_pos hlt]
  unfold oneL at at_ h1 hsz ⊢
  by_cases c1 : smallP v = 0
  · rw [if_pos c1] at at_ h1 hsz ⊢
    by_cases c2 : v < 32
    · rw [if_pos c2] at at_ h1 hsz ⊢
      have b0 := at_ 0 (by simp)
      have b1 := at_ 1 (by simp)
      have b2 := at_ 2 (by simp)
      have b3 := at_ 3 (by simp)
      have b4 := at_ 4 (by simp)
      have b5 := at_ 5 (by simp)
      simp only [List.getElem_cons_zero, List.getElem_cons_succ] at b0 b1 b2 b3 b4 b5
      simp only [List.length_cons, List.length_nil] at hsz ⊢
      rw [show ((pre.length + 0 : Nat) : Int) = (pre.length : Int) by omega] at b0
      rw [show ((pre.length + 1 : Nat) : Int) = (pre.length : Int) + 1 by omega] at b1
      rw [show ((pre.length + 2 : Nat) : Int) = (pre.length : Int) + 1 + 1 by omega] at b2
      rw [show ((pre.length + 3 : Nat) : Int) = (pre.length : Int) + 1 + 1 + 1 by omega] at b3
      rw [show ((pre.length + 4 : Nat) : Int) = (pre.length : Int) + 1 + 1 + 1 + 1 by omega] at b4
      rw [show ((pre.length + 5 : Nat) : Int) = (pre.length : Int) + 1 + 1 + 1 + 1 + 1 by omega] at b5
      rw [if_neg (by omega), if_pos b0]
      have he : escP t ((pre.length : Int) + 1) = .ok (v, ((pre.length + 6 : Nat) : Int)) := by
        unfold escP
        rw [if_pos (by omega), b1]
        have s0 : shortP 117 = none := by decide
        have d0 : hexD 48 = some 0 := by decide
        rw [s0]
        simp only [if_true]
        have hf : fourP t 4 0 ((pre.length : Int) + 1 + 1) = .ok (v, ((pre.length + 6 : Nat) : Int)) := by
          simp only [fourP]
          rw [if_pos (by omega), b2, d0]
          simp only
          rw [if_pos (by omega), b3, d0]
          simp only
          rw [if_pos (by omega), b4, hexD_C' (by omega) (by omega)]
          simp only
          rw [if_pos (by omega), b5, hexD_C' (by omega) (by omega)]
          simp only [Except.ok.injEq, Prod.mk.injEq]
          omega
        rw [hf]
        simp only
        rw [if_pos (by omega)]
      rw [he]
    · rw [if_neg c2] at at_ h1 hsz ⊢
      have hd : dec t pre.length = some (v, (formL v).length) := dec_put hv (by omega) (fun i hi => at_ i hi)
      have b0 := at_ 0 (by omega)
      rw [show ((pre.length + 0 : Nat) : Int) = (pre.length : Int) by omega] at b0
      have hb : bt t (pre.length : Int) ≠ 34 ∧ bt t (pre.length : Int) ≠ 92 ∧ ¬ bt t (pre.length : Int) < 32 := by
        rw [b0]
        by_cases c3 : v < 128
        · have e : formL v = [v] := by unfold formL; rw [if_pos c3]
          simp only [e, List.getElem_cons_zero]
          refine ⟨?_, ?_, by omega⟩
          · rintro rfl; exact absurd c1 (by decide)
          · rintro rfl; exact absurd c1 (by decide)
        · have key : ∀ (h : 0 < (formL v).length), 128 ≤ (formL v)[0] := by
            unfold formL
            rw [if_neg c3]
            intro h
            by_cases d1 : v < 2048
            · simp only [d1, if_true, List.getElem_cons_zero]; omega
            · by_cases d2 : v < 65536
              · simp only [d1, d2, if_true, if_false, List.getElem_cons_zero]; omega
              · simp only [d1, d2, if_false, List.getElem_cons_zero]; omega
          have := key (by omega)
          omega
      rw [if_neg hb.1, if_neg hb.2.1, if_neg hb.2.2, show ((pre.length : Int)).toNat = pre.length from rfl, hd]
      simp only
      rw [show (pre.length : Int) + ((formL v).length : Int) = ((pre.length + (formL v).length : Nat) : Int) by omega]
  · rw [if_neg c1] at at_ h1 hsz ⊢
    have b0 := at_ 0 (by simp)
    have b1 := at_ 1 (by simp)
    simp only [List.getElem_cons_zero, List.getElem_cons_succ] at b0 b1
    simp only [List.length_cons, List.length_nil] at hsz ⊢
    rw [show ((pre.length + 0 : Nat) : Int) = (pre.length : Int) by omega] at b0
    rw [show ((pre.length + 1 : Nat) : Int) = (pre.length : Int) + 1 by omega] at b1
    rw [if_neg (by omega), if_pos b0]
    have he : escP t ((pre.length : Int) + 1) = .ok (v, ((pre.length + 2 : Nat) : Int)) := by
      unfold escP
      rw [if_pos (by omega), b1, short_small c1]
      simp only
      rw [show (pre.length : Int) + 1 + 1 = ((pre.length + 2 : Nat) : Int) by omega]
    rw [he]
theorem text_quote : ∀ (r pre acc : List Int) (f : Nat), r.all isv = true → (∀ x ∈ pre, isU8 x) → r.length < f →
    textP (strOfNums (pre ++ r.flatMap oneL ++ [34])) f (pre.length : Int) acc = .ok (acc ++ putL r, ((pre.length + (r.flatMap oneL).length + 1 : Nat) : Int))
  | [], pre, acc, 0, _, _, h => by simp at h
  | [], pre, acc, f + 1, _, hp, h => by
    have hu : ∀ x ∈ pre ++ [34], isU8 x := fun x hx => by
      rcases List.mem_append.1 hx with h | h
      · exact hp x h
      · simp at h; subst h; exact ⟨by omega, by omega⟩
    have b0 := at_pre (X := pre ++ [34] ++ []) (pre := pre) (L := [34]) (tail := []) rfl (by simpa using hu) 0 (by simp)
    simp only [List.append_nil, List.getElem_cons_zero, Nat.add_zero] at b0
    have hsz : (strOfNums (pre ++ [34])).size = pre.length + 1 := by rw [son_size]; simp
    simp only [List.flatMap_nil, List.append_nil, textP]
    rw [if_pos (by omega), if_pos b0]
    simp [putL]
  | v :: r, pre, acc, 0, _, _, h => by simp at h
  | v :: r, pre, acc, f + 1, ha, hp, h => by
    simp only [List.all_cons, Bool.and_eq_true] at ha
    have hu1 : ∀ x ∈ pre ++ oneL v, isU8 x := fun x hx => by
      rcases List.mem_append.1 hx with h | h
      · exact hp x h
      · exact oneL_u8 ha.1 x h
    have hall : ∀ l : List Int, l.all isv = true → ∀ x ∈ l.flatMap oneL, isU8 x := fun l hl x hx => by
      obtain ⟨y, hy, hxy⟩ := List.mem_flatMap.1 hx
      exact oneL_u8 (List.all_eq_true.1 hl y hy) x hxy
    have hX : pre ++ (v :: r).flatMap oneL ++ [34] = pre ++ oneL v ++ (r.flatMap oneL ++ [34]) := by simp [List.flatMap_cons, List.append_assoc]
    have hu : ∀ x ∈ pre ++ (v :: r).flatMap oneL ++ [34], isU8 x := by
      rw [hX]
      intro x hx
      rcases List.mem_append.1 hx with h | h
      · exact hu1 x h
      · rcases List.mem_append.1 h with h | h
        · exact hall r ha.2 x h
        · simp at h; subst h; exact ⟨by omega, by omega⟩
    rw [text_one ha.1 hX hu f]
    have ih := text_quote r (pre ++ oneL v) (acc ++ formL v) f ha.2 hu1 (by simp at h; omega)
    have e : pre ++ oneL v ++ r.flatMap oneL ++ [34] = pre ++ (v :: r).flatMap oneL ++ [34] := by simp [List.flatMap_cons, List.append_assoc]
    rw [e] at ih
    rw [← List.length_append, ih]
    simp only [putL_cons, List.append_assoc, List.flatMap_cons, List.length_append, Except.ok.injEq, Prod.mk.injEq, true_and]
    omega
theorem esc_cost {t : ByteArray} {a v b : Int} (h0 : 0 ≤ a) (h : escP t a = .ok (v, b)) : ((oneL v).length : Int) ≤ b - a + 1 := by
  have ho := (oneL_len v).2
  unfold escP at h
  split at h
  · split at h
    · rename_i x hs
      cases h
      have : (oneL v).length ≤ 2 := by
        by_cases c : bt t a = 47
        · rw [c] at hs
          have : shortP 47 = some 47 := by decide
          rw [this] at hs
          cases hs
          decide
        · have hr := small_range _ _ hs c
          unfold oneL
          rw [if_neg (by rw [hr.2.2.1]; exact hr.2.2.2)]
          simp
      omega
    · split at h
      · split at h
        · cases h
        · rename_i hf
          have hq := (four_place 4 0 _ (by omega) (by omega) hf).2.2.1
          split at h
          · cases h; omega
          · split at h
            · cases h; omega
            · split at h
              · cases h
              · rw [pairP_M] at h
                split at h
                · cases h
                · rename_i hm
                  have := (pairM_place t hm (by omega)).1
                  cases h
                  omega
      · cases h
  · cases h
theorem dec_cost {t : ByteArray} {a : Nat} {v : Int} {n : Nat} (h : dec t a = some (v, n)) (h1 : bt t (a : Int) ≠ 34) (h2 : bt t (a : Int) ≠ 92) (h3 : ¬ bt t (a : Int) < 32) : (oneL v).length = n := by
  have hl := (bl_form h).2
  have hdf := dec_form h
  have hv : smallP v = 0 ∧ ¬ v < 32 := by
    have : 32 ≤ v ∧ v ≠ 34 ∧ v ≠ 92 := by
      rcases hdf.2.2.2 with ⟨_, _, _, e⟩ | ⟨_, p, _⟩ | ⟨_, p, _⟩ | ⟨_, p, _⟩
      · rw [e] at h1 h2 h3; omega
      · omega
      · omega
      · omega
    refine ⟨?_, by omega⟩
    unfold smallP
    rw [if_neg (by omega), if_neg (by omega), if_neg (by omega), if_neg (by omega), if_neg (by omega), if_neg (by omega)]
  unfold oneL
  rw [if_pos hv.1, if_neg hv.2]
  exact hl
theorem text_cost (t : ByteArray) : ∀ (f a : Nat) (acc l : List Int) (b : Int), a ≤ t.size → textP t f (a : Int) acc = .ok (l, b) → ∃ cs : List Int, cs.all isv = true ∧ l = acc ++ putL cs ∧ ((cs.flatMap oneL).length : Int) + a + 1 ≤ b ∧ b ≤ (t.size : Int)
  | 0, a, acc, l, b, _, h => by simp [textP] at h
  | f + 1, a, acc, l, b, ha, h => by
    simp only [textP] at h
    by_cases c1 : (a : Int) < (t.size : Int)
    · rw [if_pos c1] at h
      have step : ∀ (v : Int) (c : Nat), isv v = true → ((oneL v).length : Int) ≤ (c : Int) - a → c ≤ t.size → textP t f (c : Int) (acc ++ formL v) = .ok (l, b) → ∃ cs : List Int, cs.all isv = true ∧ l = acc ++ putL cs ∧ ((cs.flatMap oneL).length : Int) + a + 1 ≤ b ∧ b ≤ (t.size : Int) := fun v c hv hc hct hh => by
        obtain ⟨cs, g1, g2, g3, g4⟩ := text_cost t f c (acc ++ formL v) l b hct hh
        refine ⟨v :: cs, by simp [hv, g1], by rw [g2, putL_cons, List.append_assoc], ?_, g4⟩
        rw [List.flatMap_cons, List.length_append]
        omega
      by_cases c2 : bt t (a : Int) = 34
      · rw [if_pos c2] at h
        simp only [Except.ok.injEq, Prod.mk.injEq] at h
        obtain ⟨rfl, rfl⟩ := h
        exact ⟨[], rfl, by simp [putL], by simp, by omega⟩
      · rw [if_neg c2] at h
        by_cases c3 : bt t (a : Int) = 92
        · rw [if_pos c3] at h
          cases he : escP t ((a : Int) + 1) with
          | error e => rw [he] at h; cases h
          | ok x =>
            obtain ⟨v, c⟩ := x
            rw [he] at h
            have hp := esc_place (by omega) he
            have hc := esc_cost (by omega) he
            obtain ⟨cn, rfl⟩ : ∃ cn : Nat, c = (cn : Int) := ⟨c.toNat, by omega⟩
            exact step v cn hp.1 (by omega) (by omega) h
        · rw [if_neg c3] at h
          by_cases c4 : bt t (a : Int) < 32
          · rw [if_pos c4] at h; cases h
          · rw [if_neg c4, show ((a : Int)).toNat = a from rfl] at h
            cases hd : dec t a with
            | none => rw [hd] at h; cases h
            | some vn =>
              obtain ⟨v, n⟩ := vn
              rw [hd] at h
              have hdf := dec_form hd
              refine step v (a + n) (dec_isv hd) ?_ (by omega) (by rw [show ((a + n : Nat) : Int) = (a : Int) + (n : Int) by omega]; exact h)
              rw [dec_cost hd c2 c3 c4]
              omega
    · rw [if_neg c1] at h; cases h
theorem decs_putN (l : List Int) (hl : l.all isv = true) : codes (strOfNums (putL l)) = l ∧ endOf (strOfNums (putL l)) = (strOfNums (putL l)).size := by
  have h := decs_put ((strOfNums (putL l)).size + 1) l [] hl (fun x h => by simp at h) (by rw [son_size]; omega)
  rw [List.nil_append] at h
  refine ⟨h.1, ?_⟩
  rw [son_size]
  rw [son_size] at h
  unfold endOf
  rw [son_size]
  exact h.2
theorem bl_son (l : List Int) (hl : ∀ x ∈ l, isU8 x) (s : ByteArray) (hs : s.size = l.length) (h : bl s s.size 0 = l) : s = strOfNums l := by
  apply bytes_eq
  · rw [son_size, hs]
  · intro i hi
    rw [son_bt l i (by omega) (hl _ (List.getElem_mem _))]
    have key : ∀ (d j i : Nat) (hd : i < d), (bl s d j)[i]? = some (bt s ((j + i : Nat) : Int)) := by
      intro d
      induction d with
      | zero => intro j i hd; omega
      | succ d ih =>
        intro j i hd
        cases i with
        | zero => simp [bl]
        | succ i =>
          rw [bl, List.getElem?_cons_succ, ih (j + 1) i (by omega), show j + 1 + i = j + (i + 1) by omega]
    have h2 := key s.size 0 i hi
    rw [h, Nat.zero_add, List.getElem?_eq_getElem (by omega)] at h2
    exact (Option.some.inj h2).symm
theorem valid_put {s : ByteArray} (h : endOf s = s.size) : s = strOfNums (putL (codes s)) := by
  have hb := valid_bl h
  refine bl_son _ (putL_u8 _ (codes_isv s)) s ?_ hb
  rw [← hb, bl_len]
theorem unq_quote {s : ByteArray} (h : endOf s = s.size) : unqP (strOfNums ([34] ++ (codes s).flatMap oneL ++ [34])) 0 = (s, ((strOfNums ([34] ++ (codes s).flatMap oneL ++ [34])).size : Int), 0) := by
  have hu : ∀ x ∈ ([34] : List Int) ++ (codes s).flatMap oneL ++ [34], isU8 x := fun x hx => by
    rcases List.mem_append.1 hx with hx | hx
    · rcases List.mem_append.1 hx with hx | hx
      · simp at hx; subst hx; exact ⟨by omega, by omega⟩
      · obtain ⟨y, hy, hxy⟩ := List.mem_flatMap.1 hx
        exact oneL_u8 (List.all_eq_true.1 (codes_isv s) y hy) x hxy
    · simp at hx; subst hx; exact ⟨by omega, by omega⟩
  have hlen : (codes s).length ≤ ((codes s).flatMap oneL).length := by
    have : ∀ l : List Int, l.length ≤ (l.flatMap oneL).length := by
      intro l
      induction l with
      | nil => simp
      | cons x l ihl => have := (oneL_len x).1; rw [List.flatMap_cons, List.length_append, List.length_cons]; omega
    exact this _
  have hsz : (strOfNums ([34] ++ (codes s).flatMap oneL ++ [34])).size = ((codes s).flatMap oneL).length + 2 := by rw [son_size]; simp
  have b0 := at_pre (X := ([34] : List Int) ++ (codes s).flatMap oneL ++ [34]) (pre := []) (L := [34]) (tail := (codes s).flatMap oneL ++ [34]) (by simp) hu 0 (by simp)
  simp only [List.length_nil, Nat.add_zero, Int.natCast_zero, List.getElem_cons_zero] at b0
  have ht := text_quote (codes s) [34] [] ((strOfNums ([34] ++ (codes s).flatMap oneL ++ [34])).size + 1) (codes_isv s) (fun x hx => by simp at hx; subst hx; exact ⟨by omega, by omega⟩) (by omega)
  simp only [List.length_cons, List.length_nil, Nat.zero_add, List.nil_append] at ht
  unfold unqP
  rw [if_neg (by omega), if_neg (by omega), if_neg (by omega), if_pos b0]
  rw [show (0 : Int) + 1 = ((1 : Nat) : Int) by rfl]
  rw [show ([34] : List Int) ++ (codes s).flatMap oneL ++ [34] = ([34] ++ (codes s).flatMap oneL) ++ [34] from rfl] at *
  rw [ht]
  simp only [Prod.mk.injEq, and_true]
  refine ⟨(valid_put h).symm, ?_⟩
  omega
theorem unq_cost {t s : ByteArray} {b : Int} (h : unqP t 0 = (s, b, 0)) : endOf s = s.size ∧ ((quoteS s).1.size : Int) ≤ b ∧ (quoteS s).2 = 0 ∧ s.size ≤ t.size := by
  unfold unqP at h
  rw [if_neg (by omega)] at h
  split at h
  · simp at h
  · split at h
    · simp at h
    · split at h
      · rename_i c1 c2 c3
        split at h
        · simp only [Prod.mk.injEq] at h
          rename_i e he
          exfalso
          have : ∀ (f : Nat) (a : Int) (acc : List Int), 0 ≤ a → a ≤ (t.size : Int) → (t.size : Int) < f + a → textP t f a acc ≠ .error 0 := by
            intro f
            induction f with
            | zero => intro a acc h0 h1 h2; omega
            | succ f ih =>
              intro a acc h0 h1 h2 hc
              simp only [textP] at hc
              split at hc
              · split at hc
                · cases hc
                · split at hc
                  · split at hc
                    · rename_i hx; cases hc; have := escP_err hx; omega
                    · rename_i hx
                      have hp := esc_place (by omega) hx
                      exact ih _ _ (by omega) (by omega) (by omega) hc
                  · split at hc
                    · cases hc
                    · split at hc
                      · cases hc
                      · rename_i hx
                        have hf := dec_form hx
                        have hr := dec_range hx
                        exact ih _ _ (by omega) (by omega) (by omega) hc
              · cases hc
          refine this (t.size + 1) (0 + 1) [] (by omega) (by omega) (by omega) ?_
          rw [he, h.2.2]
        · rename_i l c he
          simp only [Prod.mk.injEq] at h
          obtain ⟨rfl, rfl, _⟩ := h
          obtain ⟨cs, g1, g2, g3, g4⟩ := text_cost t (t.size + 1) 1 [] l c (by omega) he
          rw [List.nil_append] at g2
          subst g2
          obtain ⟨k1, k2⟩ := decs_putN cs g1
          refine ⟨k2, ?_, ?_, ?_⟩
          · rw [quoteS_codes, if_pos k2, k1]
            show ((strOfNums _).size : Int) ≤ _
            rw [son_size]
            simp only [List.length_append, List.length_cons, List.length_nil]
            omega
          · rw [quoteS_codes, if_pos k2]
          · rw [son_size]
            have : (putL cs).length ≤ (cs.flatMap oneL).length := by
              have key : ∀ l : List Int, (putL l).length ≤ (l.flatMap oneL).length := by
                intro l
                induction l with
                | nil => simp [putL]
                | cons x l ihl =>
                  rw [putL_cons, List.length_append, List.flatMap_cons, List.length_append]
                  have : (formL x).length ≤ (oneL x).length := by
                    unfold oneL
                    have h4 := formL_le x
                    split
                    · split
                      · simp; omega
                      · omega
                    · rename_i hs
                      have : (formL x).length = 1 := by
                        have hx : x < 128 := by
                          unfold smallP at hs
                          repeat' split at hs
                          all_goals first | omega | simp at hs
                        unfold formL
                        rw [if_pos hx]
                        rfl
                      simp; omega
                  omega
              exact key cs
            omega
      · simp at h
end Go.Proofs.Ytijfbnkohnlmaaa.X
end
section
namespace Go.Proofs.Ytijfbnkohnlmaaa.Pure
open Go.RowKit Go.Proofs.Ytijfbnkohnlmaaa.X Go.Proofs.YtijfbnkohnlmaaaW.PrintWords Go.Proofs.YtijfbnkohnlmaaaW.PrintLast
set_option linter.unusedVariables false
set_option linter.unusedSimpArgs false
theorem back_j1 (t : ByteArray) (ht : t.size ≤ 300) : Ev (fun k => sealringlaw04_EscBack.j1 k t) true := by
  have hq : esc_Unquote.f t 0 = some (unqP t 0) := by unfold esc_Unquote.f; rw [if_pos (by omega)]
  refine Ev.step (f := fun k => (some (unqP t 0)).bind fun bt250 => (if bt250.2.2 = 0 then ((esc_Quote.f k bt250.1).bind fun bt253 => (if bt253.2 = 0 then (if (bt253.1.size : Int) ≤ bt250.2.1 then ((sealringlaw04_lives.f k).bind fun t255 => (some t255)) else (some false)) else (some false))) else ((sealringlaw04_lives.f k).bind fun t256 => (some t256)))) (fun k => ?_) ?_
  · rw [sealringlaw04_EscBack.j1, hq]
  · refine Ev.bind (g := fun _ => some (unqP t 0)) (Ev.now _) ?_
    by_cases c : (unqP t 0).2.2 = 0
    · refine evPos c ?_
      have h : unqP t 0 = ((unqP t 0).1, (unqP t 0).2.1, 0) := Prod.ext rfl (Prod.ext rfl c)
      obtain ⟨h1, h2, h3, h4⟩ := unq_cost h
      generalize (unqP t 0).1 = s at *
      refine Ev.bind (Quote_ev s (by omega)) (evPos h3 (evPos h2 (Ev.bind lives04 (Ev.now _))))
    · exact evNeg c (Ev.bind lives04 (Ev.now _))
theorem EscBack : sealringlaw04_EscBack.Pure := by
  intro s t h1 h2
  refine Ev.rounds ?_
  unfold sealringlaw04_EscBack.f
  have j0 : ∀ b : Bool, b = true → Ev (fun k => sealringlaw04_EscBack.j0 k s t b) true := fun b hb => by
    refine Ev.step (f := fun k => (sealringlaw04_lives.f k).bind fun t244 => (some t244)) (fun k => ?_) (Ev.bind lives04 (Ev.now _))
    rw [sealringlaw04_EscBack.j0, if_pos hb]
  by_cases hc : (s.size : Int) > 300
  · exact evPos hc (j0 true rfl)
  · refine evNeg hc ?_
    by_cases hd : (t.size : Int) > 300
    · exact j0 _ (decide_eq_true hd)
    · have j1 := back_j1 t (by omega)
      refine Ev.step (f := fun k => (esc_Quote.f k s).bind fun bt245 => (if bt245.2 = 0 then ((esc_Unquote.f bt245.1 0).bind fun bt247 => (if bt247.1.toList = s.toList then (if bt247.2.1 = (bt245.1.size : Int) then (if bt247.2.2 = 0 then (sealringlaw04_EscBack.j1 k t) else (some false)) else (some false)) else (some false))) else (sealringlaw04_EscBack.j1 k t))) (fun k => ?_) ?_
      · rw [sealringlaw04_EscBack.j0, if_neg (by simp; omega)]
      · refine Ev.bind (Quote_ev s (by omega)) ?_
        rw [quoteS_codes]
        by_cases hv : endOf s = s.size
        · rw [if_pos hv]
          refine evPos rfl ?_
          have hlen : (strOfNums ([34] ++ (codes s).flatMap oneL ++ [34])).size ≤ 35184372080000 := by
            rw [son_size]
            have h3 := flat_le oneL 6 (fun x => (oneL_len x).2) (codes s)
            have h4 := valid_bl hv
            have h5 := congrArg List.length h4
            rw [bl_len] at h5
            have h6 : (codes s).length ≤ (putL (codes s)).length := by
              have : ∀ l : List Int, l.length ≤ (putL l).length := by
                intro l
                induction l with
                | nil => simp
                | cons x l ihl => have := (formL_le x).1; rw [putL_cons, List.length_append, List.length_cons]; omega
              exact this _
            simp only [List.length_append, List.length_cons, List.length_nil]
            omega
          have hq : esc_Unquote.f (strOfNums ([34] ++ (codes s).flatMap oneL ++ [34])) 0 = some (s, ((strOfNums ([34] ++ (codes s).flatMap oneL ++ [34])).size : Int), 0) := by
            unfold esc_Unquote.f
            rw [if_pos hlen, unq_quote hv]
          show Ev (fun k => (esc_Unquote.f (strOfNums ([34] ++ (codes s).flatMap oneL ++ [34])) 0).bind _) true
          rw [hq]
          exact Ev.bind (g := fun _ => some (s, ((strOfNums ([34] ++ (codes s).flatMap oneL ++ [34])).size : Int), (0 : Int))) (Ev.now _) (evPos rfl (evPos rfl (evPos rfl j1)))
        · rw [if_neg hv]
          exact evNeg (by decide) j1
end Go.Proofs.Ytijfbnkohnlmaaa.Pure
end
section
-- printed by wip/tools/printx.py over the translation; Lean checks it
namespace Go.Proofs.Ytijfbnkohnlmaaa.escBack
open Go.ChangeShapes Go.WideShapes Go.ChangeAt Go.RowKit
open Go.ChangeMaps (open_string shut_string)
set_option linter.unusedVariables false
theorem own : ownKnob Try.prog.godebug = none := by kernel_rfl
set_option maxRecDepth 100000 in
theorem lifted (os : Os) (started : os.Started) (H : Type) (enc : TypeId × Value → H) :
    ReturnsInHanded {} Try.checked os 7 .any (Rows.escBackSpec.pre6 enc Try.prog Try.f7 Rows.escBackRow.domain false) (Rows.escBackSpec.post enc Try.prog Try.f7 false true false false) := by
  refine returnsInHanded_of_change_sized (C := Try.checked) own started (by kernel_rfl) Try.func7
    (ChangeSpec.witness6 (enc := enc) (C := Try.checked) false ⟨#[], #[.string ByteArray.empty, .string ByteArray.empty], []⟩ 8 (by kernel_rfl) (by kernel_rfl) (by kernel_rfl) (by kernel_rfl)) ?_
  intro W base args ds gs before hval0 hW hcnd hsz0 _
  have hsz : (DataW.weightsEach Try.prog (Try.f7.params.toList ++ Rows.escBackSpec.plain.varTypes Try.prog) (ds ++ gs)).all (· ≤ reachBytes) = true := hsz0
  have hval : ∀ (j : Nat) t v, Try.f7.params[j]? = some t → args[j]? = some v → Value.okWide Try.prog W .any base t v := hval0
  have hW' := hW
  obtain ⟨p, q, hA0, hV, rfl, hfz, hnd⟩ := hW
  have hA : DataW.TrodAll enc Try.prog W 0 (fun _ => true) true Try.f7.params.toList args.toList ds p := hA0
  rw [Try.params7] at hA hval hsz
  obtain ⟨v0, vs0, d0, ds0, p0, q0, hargs, rfl, rfl, h0, r0⟩ := trodAll_cons hA
  obtain ⟨v1, vs1, d1, ds1, p1, q1, rfl, rfl, rfl, h1, r1⟩ := trodAll_cons r0
  obtain ⟨rfl, rfl, rfl⟩ := trodAll_nil r1
  obtain rfl : args = #[v0, v1] := by cases args; simp_all
  obtain ⟨rfl, rfl⟩ := trodVars_none hV
  obtain ⟨a0, rfl, rfl, rfl, y0⟩ := open_string Try.underlying9 (hval 0 9 v0 rfl rfl) h0
  have w0 : a0.size ≤ 140737488351232 := by
    have z := sized_string hsz (j := 0) (t := 9) rfl rfl
    rw [Array.length_toList] at z
    exact z
  obtain ⟨a1, rfl, rfl, rfl, y1⟩ := open_string Try.underlying9 (hval 1 9 v1 rfl rfl) h1
  have w1 : a1.size ≤ 140737488351232 := by
    have z := sized_string hsz (j := 1) (t := 9) rfl rfl
    rw [Array.length_toList] at z
    exact z
  clear hA0 hval0 hsz0 hsz
  refine (X.sealringlaw04_EscBack.walk Pure.EscBack a0 a1 W w0 w1).mono fun e W' ⟨he, bel⟩ => ?_
  subst he
  exact ⟨_, rfl, _, _, _, [], _, [], hW', trodAll_mk1 (shut_bool Try.underlying4 _), (trodAll_cons_mk (shut_string Try.underlying9 y0) (trodAll_cons_mk (shut_string Try.underlying9 y1) trodAll_mk0)), rfl, bel.frame _, fun h => by cases h⟩
theorem over : Rows.escBackRow.holds Try.pinned (OpenSpec.ofChange Rows.escBackSpec) :=
  OpenClaim.holds_of_wide 7 Try.f7 rfl rfl rfl rfl rfl rfl rfl ⟨rfl, rfl, rfl, rfl, rfl⟩ rfl rfl rfl rfl rfl (by kernel_rfl) Try.func7 (by kernel_rfl)
    (of_decide_eq_true (by kernel_rfl)) (by unfold Func.isWrapper; first | (rw [if_pos (by decide +kernel)]; kernel_rfl) | (rw [if_neg (by decide +kernel)]; exact ⟨rfl, rfl⟩))
    (fun os started H enc _ => lifted os started H enc)
theorem proved : Rows.EscBackSaid := over
#print axioms proved
end Go.Proofs.Ytijfbnkohnlmaaa.escBack
namespace Go.Proofs.Ytijfbnkohnlmaaa
/-- The row, under a short name, for the claim. -/
theorem escBack_holds : Rows.EscBackSaid := escBack.proved
end Go.Proofs.Ytijfbnkohnlmaaa
end
