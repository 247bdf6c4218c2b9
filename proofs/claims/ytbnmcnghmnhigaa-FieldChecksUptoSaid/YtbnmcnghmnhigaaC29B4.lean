import Derived.Test.YtbnmcnghmnhigaaC29B3
section
namespace Go.Proofs.Ytbnmcnghmnhigaa.X
open Go.RowKit Go.Proofs.YtbnmcnghmnhigaaW.PrintWords Go.Proofs.YtbnmcnghmnhigaaW.PrintLast Go.Proofs.YtbnmcnghmnhigaaW.PrintMore
attribute [local go_sem] Go.Instr.field Go.asAgg max2_int min2_int max_two min_two max_three min_three max_four min_four
set_option linter.unusedVariables false
set_option linter.unusedSimpArgs false
def sealringlaw29_lives.f (k : Nat)  : Option (Bool) := (tree_Text.f (⟨#[97]⟩ : ByteArray)).bind fun bt480 => ((tree_Text.f (⟨#[120, 121]⟩ : ByteArray)).bind fun bt489 => ((tree_Map.f k (([(⟨bt480.1, bt480.2.1, bt480.2.2.1, bt480.2.2.2.1, bt480.2.2.2.2⟩ : S25), (⟨bt489.1, bt489.2.1, bt489.2.2.1, bt489.2.2.2.1, bt489.2.2.2.2⟩ : S25)] : List (S25)))).bind fun bt501 => ((field_May.f k 4 (([(⟨#[97]⟩ : ByteArray)] : List ByteArray))).bind fun t514 => ((field_Most.f 1 t514).bind fun t517 => ((field_Check.f k bt501.1 bt501.2.1 bt501.2.2.1 bt501.2.2.2.1 bt501.2.2.2.2 t517).bind fun bt520 => ((field_Must.f k 0 (([(⟨#[98]⟩ : ByteArray)] : List ByteArray))).bind fun t525 => ((field_Check.f k bt501.1 bt501.2.1 bt501.2.2.1 bt501.2.2.2.1 bt501.2.2.2.2 t525).bind fun bt528 => (if bt520.1.toList = ([97] : List UInt8) then (if bt520.2 = 4 then (if bt528.1.toList = ([98] : List UInt8) then (some (bt528.2 == 15)) else (some false)) else (some false)) else (some false)))))))))
theorem sealringlaw29_lives.mono : ∀ k, LeO (sealringlaw29_lives.f k ) (sealringlaw29_lives.f (k + 1) ) := by
  intro  k
  unfold sealringlaw29_lives.f
  repeat' first
      | (with_reducible exact field_Check.mono _ _ _ _ _ _ _)
      | (with_reducible exact field_May.mono _ _ _)
      | (with_reducible exact field_Must.mono _ _ _)
      | (with_reducible exact tree_Map.mono _ _)
      | (with_reducible exact LeO.refl _)
      | (with_reducible exact LeO.none _)
      | (with_reducible refine LeO.ite ?_ ?_)
      | (with_reducible refine LeO.bind ?_ (fun _ => ?_))
      | exact field_Check.mono _ _ _ _ _ _ _
      | exact field_May.mono _ _ _
      | exact field_Must.mono _ _ _
      | exact tree_Map.mono _ _
      | exact LeO.none _
      | refine LeO.ite ?_ ?_
      | refine LeO.bind ?_ (fun _ => ?_)
def sealringlaw29_lives.T2 : Bool × List (List Nat × List Nat) := (true, [([], []), ([], []), ([1], [1]), ([2, 2], [2]), ([0, 3, 3], [0, 3]), ([4], [4]), ([5], [5]), ([5], [5]), ([6, 4, 0, 1, 2, 3, 4, 5, 6], [6]), ([7, 8, 0, 1, 2, 3, 4, 5, 6, 7, 8], [7])])
def sealringlaw29_lives.B2 : List Nat := [0, 0, 2, 6, 15, 31, 63, 63, 127, 511]
theorem sealringlaw29_lives.tab2 : rtab .any (opsOf Try.f25 2) = sealringlaw29_lives.T2 := by kernel_rfl
theorem sealringlaw29_lives.bits2 : waitsOk sealringlaw29_lives.T2.2 sealringlaw29_lives.B2 = true := by kernel_rfl
def sealringlaw29_lives.T3 : Bool × List (List Nat × List Nat) := (true, [([], []), ([], []), ([1], [1]), ([0, 2, 2], [0, 2]), ([3], [3]), ([4], [4]), ([4], [4]), ([5, 3, 0, 1, 2, 3, 4, 5], [5]), ([6, 7, 0, 1, 2, 3, 4, 5, 6, 7], [6])])
def sealringlaw29_lives.B3 : List Nat := [0, 0, 2, 7, 15, 31, 31, 63, 255]
theorem sealringlaw29_lives.tab3 : rtab .any (opsOf Try.f25 3) = sealringlaw29_lives.T3 := by kernel_rfl
theorem sealringlaw29_lives.bits3 : waitsOk sealringlaw29_lives.T3.2 sealringlaw29_lives.B3 = true := by kernel_rfl
set_option maxHeartbeats 8000000 in
set_option maxRecDepth 100000 in
theorem sealringlaw29_lives.calls (k : Nat)  (r : Bool) (w : World) (h : sealringlaw29_lives.f k  = some r) :
    Calls Try.prog 25 #[] w fun e w' => e = .returned (.bool r) ∧ Below w.heap.size w w' := by
  have hu25 := Try.underlying25
  have HB := Aside0.mk (Below.refl w.heap.size w)
  have H : ((tree_Text.f (⟨#[97]⟩ : ByteArray)).bind fun bt480 => ((tree_Text.f (⟨#[120, 121]⟩ : ByteArray)).bind fun bt489 => ((tree_Map.f k (([(⟨bt480.1, bt480.2.1, bt480.2.2.1, bt480.2.2.2.1, bt480.2.2.2.2⟩ : S25), (⟨bt489.1, bt489.2.1, bt489.2.2.1, bt489.2.2.2.1, bt489.2.2.2.2⟩ : S25)] : List (S25)))).bind fun bt501 => ((field_May.f k 4 (([(⟨#[97]⟩ : ByteArray)] : List ByteArray))).bind fun t514 => ((field_Most.f 1 t514).bind fun t517 => ((field_Check.f k bt501.1 bt501.2.1 bt501.2.2.1 bt501.2.2.2.1 bt501.2.2.2.2 t517).bind fun bt520 => ((field_Must.f k 0 (([(⟨#[98]⟩ : ByteArray)] : List ByteArray))).bind fun t525 => ((field_Check.f k bt501.1 bt501.2.1 bt501.2.2.1 bt501.2.2.2.1 bt501.2.2.2.2 t525).bind fun bt528 => (if bt520.1.toList = ([97] : List UInt8) then (if bt520.2 = 4 then (if bt528.1.toList = ([98] : List UInt8) then (some (bt528.2 == 15)) else (some false)) else (some false)) else (some false)))))))))) = some r := h
  clear h
  replace H := Option.bind_eq_some_iff.mp H
  obtain ⟨⟨t480, t481, t482, t483, t486⟩, A10, H⟩ := H
  replace H : ((tree_Text.f (⟨#[120, 121]⟩ : ByteArray)).bind fun bt489 => ((tree_Map.f k (([(⟨t480, t481, t482, t483, t486⟩ : S25), (⟨bt489.1, bt489.2.1, bt489.2.2.1, bt489.2.2.2.1, bt489.2.2.2.2⟩ : S25)] : List (S25)))).bind fun bt501 => ((field_May.f k 4 (([(⟨#[97]⟩ : ByteArray)] : List ByteArray))).bind fun t514 => ((field_Most.f 1 t514).bind fun t517 => ((field_Check.f k bt501.1 bt501.2.1 bt501.2.2.1 bt501.2.2.2.1 bt501.2.2.2.2 t517).bind fun bt520 => ((field_Must.f k 0 (([(⟨#[98]⟩ : ByteArray)] : List ByteArray))).bind fun t525 => ((field_Check.f k bt501.1 bt501.2.1 bt501.2.2.1 bt501.2.2.2.1 bt501.2.2.2.2 t525).bind fun bt528 => (if bt520.1.toList = ([97] : List UInt8) then (if bt520.2 = 4 then (if bt528.1.toList = ([98] : List UInt8) then (some (bt528.2 == 15)) else (some false)) else (some false)) else (some false))))))))) = some r := H
  have A1 := Aside0.mk A10
  clear A10
  replace H := Option.bind_eq_some_iff.mp H
  obtain ⟨⟨t489, t490, t491, t492, t495⟩, A20, H⟩ := H
  replace H : ((tree_Map.f k (([(⟨t480, t481, t482, t483, t486⟩ : S25), (⟨t489, t490, t491, t492, t495⟩ : S25)] : List (S25)))).bind fun bt501 => ((field_May.f k 4 (([(⟨#[97]⟩ : ByteArray)] : List ByteArray))).bind fun t514 => ((field_Most.f 1 t514).bind fun t517 => ((field_Check.f k bt501.1 bt501.2.1 bt501.2.2.1 bt501.2.2.2.1 bt501.2.2.2.2 t517).bind fun bt520 => ((field_Must.f k 0 (([(⟨#[98]⟩ : ByteArray)] : List ByteArray))).bind fun t525 => ((field_Check.f k bt501.1 bt501.2.1 bt501.2.2.1 bt501.2.2.2.1 bt501.2.2.2.2 t525).bind fun bt528 => (if bt520.1.toList = ([97] : List UInt8) then (if bt520.2 = 4 then (if bt528.1.toList = ([98] : List UInt8) then (some (bt528.2 == 15)) else (some false)) else (some false)) else (some false)))))))) = some r := H
  have A2 := Aside0.mk A20
  clear A20
  obtain ⟨y498, hy498⟩ : ∃ y_ : List (S25), y_ = (([(⟨t480, t481, t482, t483, t486⟩ : S25), (⟨t489, t490, t491, t492, t495⟩ : S25)] : List (S25))) := ⟨_, rfl⟩
  replace H : ((tree_Map.f k y498).bind fun bt501 => ((field_May.f k 4 (([(⟨#[97]⟩ : ByteArray)] : List ByteArray))).bind fun t514 => ((field_Most.f 1 t514).bind fun t517 => ((field_Check.f k bt501.1 bt501.2.1 bt501.2.2.1 bt501.2.2.2.1 bt501.2.2.2.2 t517).bind fun bt520 => ((field_Must.f k 0 (([(⟨#[98]⟩ : ByteArray)] : List ByteArray))).bind fun t525 => ((field_Check.f k bt501.1 bt501.2.1 bt501.2.2.1 bt501.2.2.2.1 bt501.2.2.2.2 t525).bind fun bt528 => (if bt520.1.toList = ([97] : List UInt8) then (if bt520.2 = 4 then (if bt528.1.toList = ([98] : List UInt8) then (some (bt528.2 == 15)) else (some false)) else (some false)) else (some false)))))))) = some r := by first | (rw [hy498]; with_reducible exact H) | (have H2_ := (Option.bind_some _ _).symm.trans H; rw [hy498]; with_reducible exact H2_) | (have H2_ := (Option.bind_some _ _).symm.trans H; with_reducible exact H2_) | with_reducible exact H | (rw [hy498]; exact H) | exact H
  have Ny498 := Aside0.mk hy498
  clear hy498
  replace H := Option.bind_eq_some_iff.mp H
  obtain ⟨⟨t501, t502, t503, t504, t507⟩, A30, H⟩ := H
  replace H : ((field_May.f k 4 (([(⟨#[97]⟩ : ByteArray)] : List ByteArray))).bind fun t514 => ((field_Most.f 1 t514).bind fun t517 => ((field_Check.f k t501 t502 t503 t504 t507 t517).bind fun bt520 => ((field_Must.f k 0 (([(⟨#[98]⟩ : ByteArray)] : List ByteArray))).bind fun t525 => ((field_Check.f k t501 t502 t503 t504 t507 t525).bind fun bt528 => (if bt520.1.toList = ([97] : List UInt8) then (if bt520.2 = 4 then (if bt528.1.toList = ([98] : List UInt8) then (some (bt528.2 == 15)) else (some false)) else (some false)) else (some false))))))) = some r := H
  have A3 := Aside0.mk A30
  clear A30
  obtain ⟨y511, hy511⟩ : ∃ y_ : List ByteArray, y_ = (([(⟨#[97]⟩ : ByteArray)] : List ByteArray)) := ⟨_, rfl⟩
  replace H : ((field_May.f k 4 y511).bind fun t514 => ((field_Most.f 1 t514).bind fun t517 => ((field_Check.f k t501 t502 t503 t504 t507 t517).bind fun bt520 => ((field_Must.f k 0 (([(⟨#[98]⟩ : ByteArray)] : List ByteArray))).bind fun t525 => ((field_Check.f k t501 t502 t503 t504 t507 t525).bind fun bt528 => (if bt520.1.toList = ([97] : List UInt8) then (if bt520.2 = 4 then (if bt528.1.toList = ([98] : List UInt8) then (some (bt528.2 == 15)) else (some false)) else (some false)) else (some false))))))) = some r := by first | (rw [hy511]; with_reducible exact H) | (have H2_ := (Option.bind_some _ _).symm.trans H; rw [hy511]; with_reducible exact H2_) | (have H2_ := (Option.bind_some _ _).symm.trans H; with_reducible exact H2_) | with_reducible exact H | (rw [hy511]; exact H) | exact H
  have Ny511 := Aside0.mk hy511
  clear hy511
  replace H := Option.bind_eq_some_iff.mp H
  obtain ⟨t514, A40, H⟩ := H
  replace H : ((field_Most.f 1 t514).bind fun t517 => ((field_Check.f k t501 t502 t503 t504 t507 t517).bind fun bt520 => ((field_Must.f k 0 (([(⟨#[98]⟩ : ByteArray)] : List ByteArray))).bind fun t525 => ((field_Check.f k t501 t502 t503 t504 t507 t525).bind fun bt528 => (if bt520.1.toList = ([97] : List UInt8) then (if bt520.2 = 4 then (if bt528.1.toList = ([98] : List UInt8) then (some (bt528.2 == 15)) else (some false)) else (some false)) else (some false)))))) = some r := H
  have A4 := Aside0.mk A40
  clear A40
  replace H := Option.bind_eq_some_iff.mp H
  obtain ⟨t517, A50, H⟩ := H
  replace H : ((field_Check.f k t501 t502 t503 t504 t507 t517).bind fun bt520 => ((field_Must.f k 0 (([(⟨#[98]⟩ : ByteArray)] : List ByteArray))).bind fun t525 => ((field_Check.f k t501 t502 t503 t504 t507 t525).bind fun bt528 => (if bt520.1.toList = ([97] : List UInt8) then (if bt520.2 = 4 then (if bt528.1.toList = ([98] : List UInt8) then (some (bt528.2 == 15)) else (some false)) else (some false)) else (some false))))) = some r := H
  have A5 := Aside0.mk A50
  clear A50
  replace H := Option.bind_eq_some_iff.mp H
  obtain ⟨⟨t520, t521⟩, A60, H⟩ := H
  replace H : ((field_Must.f k 0 (([(⟨#[98]⟩ : ByteArray)] : List ByteArray))).bind fun t525 => ((field_Check.f k t501 t502 t503 t504 t507 t525).bind fun bt528 => (if t520.toList = ([97] : List UInt8) then (if t521 = 4 then (if bt528.1.toList = ([98] : List UInt8) then (some (bt528.2 == 15)) else (some false)) else (some false)) else (some false)))) = some r := H
  have A6 := Aside0.mk A60
  clear A60
  obtain ⟨y522, hy522⟩ : ∃ y_ : List ByteArray, y_ = (([(⟨#[98]⟩ : ByteArray)] : List ByteArray)) := ⟨_, rfl⟩
  replace H : ((field_Must.f k 0 y522).bind fun t525 => ((field_Check.f k t501 t502 t503 t504 t507 t525).bind fun bt528 => (if t520.toList = ([97] : List UInt8) then (if t521 = 4 then (if bt528.1.toList = ([98] : List UInt8) then (some (bt528.2 == 15)) else (some false)) else (some false)) else (some false)))) = some r := by first | (rw [hy522]; with_reducible exact H) | (have H2_ := (Option.bind_some _ _).symm.trans H; rw [hy522]; with_reducible exact H2_) | (have H2_ := (Option.bind_some _ _).symm.trans H; with_reducible exact H2_) | with_reducible exact H | (rw [hy522]; exact H) | exact H
  have Ny522 := Aside0.mk hy522
  clear hy522
  replace H := Option.bind_eq_some_iff.mp H
  obtain ⟨t525, A70, H⟩ := H
  replace H : ((field_Check.f k t501 t502 t503 t504 t507 t525).bind fun bt528 => (if t520.toList = ([97] : List UInt8) then (if t521 = 4 then (if bt528.1.toList = ([98] : List UInt8) then (some (bt528.2 == 15)) else (some false)) else (some false)) else (some false))) = some r := H
  have A7 := Aside0.mk A70
  clear A70
  replace H := Option.bind_eq_some_iff.mp H
  obtain ⟨⟨t528, t529⟩, A80, H⟩ := H
  replace H : (if t520.toList = ([97] : List UInt8) then (if t521 = 4 then (if t528.toList = ([98] : List UInt8) then (some (t529 == 15)) else (some false)) else (some false)) else (some false)) = some r := H
  have A8 := Aside0.mk A80
  clear A80
  by_cases c9 : t520.toList = ([97] : List UInt8)
  · rw [if_pos c9] at H
    have c9b0 : (t520.toList == ([97] : List UInt8)) = true := beq_iff_eq.mpr c9
    have c9b1 : (t520.toList != ([97] : List UInt8)) = false := bne_eq_false_iff_eq.mpr c9
    clear c9
    by_cases c10 : t521 = 4
    · rw [if_pos c10] at H
      have c10b0 : (t521 == 4) = true := beq_iff_eq.mpr c10
      have c10b1 : (t521 != 4) = false := bne_eq_false_iff_eq.mpr c10
      clear c10
      by_cases c11 : t528.toList = ([98] : List UInt8)
      · rw [if_pos c11] at H
        have c11b0 : (t528.toList == ([98] : List UInt8)) = true := beq_iff_eq.mpr c11
        have c11b1 : (t528.toList != ([98] : List UInt8)) = false := bne_eq_false_iff_eq.mpr c11
        clear c11
        obtain rfl := Option.some.inj H
        have hu29 := Try.underlying29
        go_enter Try.func25, Try.ntmps25
        try go_wp2_with (first | ((with_reducible refine gate_callee (f := 23) rfl ?_); refine goesL_ (some 6) rfl rfl Try.func23 (by kernel_rfl) rfl #[.string (⟨#[97]⟩ : ByteArray)] rfl (by (try simp only [List.map_toArray, List.map_cons, List.map_nil]); first | done | rfl | (simp only [List.length_drop, List.length_take]; rfl)) ?_; (with_reducible refine (tree_Text.calls (⟨#[97]⟩ : ByteArray) t480 t481 t482 t483 t486 _ A1.out).mono ?_); rintro e w12 ⟨v484, v487, rfl, ho0, ho1, hb⟩; refine ⟨_, rfl, ?_⟩; have n0_ := Aside0.mk (Kd.R_lower ho0 (below_size (by repeat (first | (with_reducible first | exact HB.out | apply below_alloc | apply pw_below_drewN | apply below_drew1) | exact HB.out)))); have n1_ := Aside0.mk (Kd.N_lower (Kd.N_mono (ok' := fun k_ => some k_ ≠ (v484 : Value).ownBlock) (Kd.R_N (Kd.R_bound ho1)) (fun k_ hk_ => hk_.1)) (below_size (by repeat (first | (with_reducible first | exact HB.out | apply below_alloc | apply pw_below_drewN | apply below_drew1) | exact HB.out)))); have n2_ := Aside0.mk (below_step (by repeat (first | (with_reducible first | exact HB.out | apply below_alloc | apply pw_below_drewN | apply below_drew1) | exact HB.out)) hb); clear HB; have HO485 := n0_; have HO488 := n1_; have HB := n2_; clear n0_ n1_ n2_; (try clear hb); (try clear hb2); (try clear hk); (try clear hi); (try clear ho0); (try clear ho1)) | ((with_reducible refine gate_callee (f := 23) rfl ?_); refine goesL_ (some 7) rfl rfl Try.func23 (by kernel_rfl) rfl #[.string (⟨#[120, 121]⟩ : ByteArray)] rfl (by (try simp only [List.map_toArray, List.map_cons, List.map_nil]); first | done | rfl | (simp only [List.length_drop, List.length_take]; rfl)) ?_; (with_reducible refine (tree_Text.calls (⟨#[120, 121]⟩ : ByteArray) t489 t490 t491 t492 t495 _ A2.out).mono ?_); rintro e w13 ⟨v493, v496, rfl, ho0, ho1, hb⟩; refine ⟨_, rfl, ?_⟩; have n0_ := Aside0.mk (Kd.R_elder' (by (with_reducible repeat (first | apply Kd.R_alloc | apply Kd.R_drewN | apply Kd.R_drew)); exact HO485.out) (Kd.R_base ho0) hb); have n1_ := Aside0.mk (Kd.N_mono (Kd.N_told (Kd.N_told (Kd.N_old (by (with_reducible repeat (first | apply Kd.N_alloc | apply Kd.N_drewN | apply Kd.N_drew)); exact HO488.out) hb) (Kd.R_base ho0)) (by first | exact Kd.N_base ho1 | exact Kd.N_base (Kd.R_N (Kd.R_bound ho1)) | exact Kd.N_base (Kd.R_N ho1))) (fun _ h_ => h_.1)); have n2_ := Aside0.mk (Kd.R_lower (Kd.R_new' ho0 (Kd.R_lt (by (with_reducible repeat (first | apply Kd.R_alloc | apply Kd.R_drewN | apply Kd.R_drew)); exact HO485.out))) (below_size (by repeat (first | (with_reducible first | exact HB.out | apply below_alloc | apply pw_below_drewN | apply below_drew1) | exact HB.out)))); have n3_ := Aside0.mk (Kd.N_lower (Kd.N_mono (ok' := fun k_ => some k_ ≠ (v493 : Value).ownBlock ∧ some k_ ≠ (v484 : Value).ownBlock ∧ some k_ ≠ (v487 : Value).ownBlock) (Kd.R_N (Kd.R_bound ho1)) (fun k_ hk_ => ⟨hk_.1, (Kd.fresh' (Kd.R_lt (by (with_reducible repeat (first | apply Kd.R_alloc | apply Kd.R_drewN | apply Kd.R_drew)); exact HO485.out)) k_ hk_.2.1), (Kd.fresh' (Kd.N_lt (by (with_reducible repeat (first | apply Kd.N_alloc | apply Kd.N_drewN | apply Kd.N_drew)); exact HO488.out)) k_ hk_.2.1)⟩)) (below_size (by repeat (first | (with_reducible first | exact HB.out | apply below_alloc | apply pw_below_drewN | apply below_drew1) | exact HB.out)))); have n4_ := Aside0.mk (below_step (by repeat (first | (with_reducible first | exact HB.out | apply below_alloc | apply pw_below_drewN | apply below_drew1) | exact HB.out)) hb); clear HO485; clear HO488; clear HB; have HO485 := n0_; have HO488 := n1_; have HO494 := n2_; have HO497 := n3_; have HB := n4_; clear n0_ n1_ n2_ n3_ n4_; (try clear hb); (try clear hb2); (try clear hk); (try clear hi); (try clear ho0); (try clear ho1); obtain ⟨Ao14, co14, eo14⟩ := Kd.R_slice HO485.out; subst eo14; obtain ⟨Ao15, co15, eo15⟩ := Kd.N_slice HO488.out; subst eo15; obtain ⟨Ao16, co16, eo16⟩ := Kd.R_slice HO494.out; subst eo16; obtain ⟨Ao17, co17, eo17⟩ := Kd.N_slice HO497.out; subst eo17) | ((with_reducible refine gate_dst (N := 8) rfl ?_); refine Kd.N_lit k25 _ 25 ?hg (N' := 8) ?hd (xs := ([(⟨t480, t481, t482, t483, t486⟩ : S25), (⟨t489, t490, t491, t492, t495⟩ : S25)] : List (S25))) (inner := [.int .i64 t480, .int .i64 t481, .string t482, .slice Ao14 t483.length co14, .slice Ao15 t486.length co15, .int .i64 t489, .int .i64 t490, .string t491, .slice Ao16 t492.length co16, .slice Ao17 t495.length co17]) (ok := (fun _ => True)) (okp := (fun _ => True)) ?hr ?hp (fun _ hk => hk) ((show ∀ k_, w13.heap.size ≤ k_ → (fun _ => True) k_ from fun k_ hk => trivial) _ (Nat.le_refl _)) (Below.refl _ _) (Nat.le_refl _) (by simp) ?_; (case hd => rfl); (case hg => rfl); (case hr => first | (go_simp; done) | (go_simp; rfl)); (case hp => exact (Reps.c5 (show Kd.FK k25 _ _ (⟨t480, t481, t482, t483, t486⟩ : S25) [.int .i64 t480, .int .i64 t481, .string t482, .slice Ao14 t483.length co14, .slice Ao15 t486.length co15] from (k25_mkF _ _ (⟨t480, t481, t482, t483, t486⟩ : S25) (Kd.R_reads' (Kd.R_mono (ok' := (fun _ => True)) (HO485.out) (fun k_ hk => trivial))).2.1 (Kd.R_F (Kd.R_mono (ok' := (fun _ => True)) (HO485.out) (fun k_ hk => trivial))) (Kd.N_reads' (Kd.N_mono (ok' := (fun _ => True)) (HO488.out) (fun k_ hk => trivial))).2.1 (Kd.N_F (Kd.N_mono (ok' := (fun _ => True)) (HO488.out) (fun k_ hk => trivial))))) (Reps.c5 (show Kd.FK k25 _ _ (⟨t489, t490, t491, t492, t495⟩ : S25) [.int .i64 t489, .int .i64 t490, .string t491, .slice Ao16 t492.length co16, .slice Ao17 t495.length co17] from (k25_mkF _ _ (⟨t489, t490, t491, t492, t495⟩ : S25) (Kd.R_reads' (Kd.R_mono (ok' := (fun _ => True)) (HO494.out) (fun k_ hk => trivial))).2.1 (Kd.R_F (Kd.R_mono (ok' := (fun _ => True)) (HO494.out) (fun k_ hk => trivial))) (Kd.N_reads' (Kd.N_mono (ok' := (fun _ => True)) (HO497.out) (fun k_ hk => trivial))).2.1 (Kd.N_F (Kd.N_mono (ok' := (fun _ => True)) (HO497.out) (fun k_ hk => trivial))))) (Reps.none _ _)))); intro v499 w18 ho19 hb hg_ hnew_; clear hg_ hnew_; (first | rw [← Ny498.out] at ho19 | (simp only [Int.reduceToNat] at ho19; rw [← Ny498.out] at ho19)); have n0_ := Aside0.mk (Kd.N_lower ho19 (below_size (by repeat (first | (with_reducible first | exact HB.out | apply below_alloc | apply pw_below_drewN | apply below_drew1) | exact HB.out)))); have n1_ := Aside0.mk (below_step (by repeat (first | (with_reducible first | exact HB.out | apply below_alloc | apply pw_below_drewN | apply below_drew1) | exact HB.out)) hb); clear HB; clear HO485; clear HO488; clear HO494; clear HO497; have HO500 := n0_; have HB := n1_; clear n0_ n1_; clear hb ho19; obtain ⟨Ao20, co20, eo20⟩ := Kd.N_slice HO500.out; subst eo20) | ((with_reducible refine gate_callee (f := 22) rfl ?_); refine goesL_ (some 9) rfl rfl Try.func22 (by kernel_rfl) rfl #[.slice Ao20 y498.length co20] rfl (by (try simp only [List.map_toArray, List.map_cons, List.map_nil]); first | done | rfl | (simp only [List.length_drop, List.length_take]; rfl)) ?_; (with_reducible refine (tree_Map.calls k (fun k_ => True) _ _ y498 t501 t502 t503 t504 t507 _ ?side1 A3.out).mono ?_); (case side1 => exact Kd.N_V (HO500.out)); rintro e w21 ⟨v505, v508, rfl, ho0, ho1, hb⟩; refine ⟨_, rfl, ?_⟩; have n0_ := Aside0.mk (Kd.N_mono (Kd.N_told (Kd.N_told (Kd.N_old (by (with_reducible repeat (first | apply Kd.N_alloc | apply Kd.N_drewN | apply Kd.N_drew)); exact HO500.out) hb) (Kd.R_base ho0)) (by first | exact Kd.N_base ho1 | exact Kd.N_base (Kd.R_N (Kd.R_bound ho1)) | exact Kd.N_base (Kd.R_N ho1))) (fun _ h_ => h_.1)); have n1_ := Aside0.mk (Kd.R_lower (Kd.R_mono (ok' := fun k_ => True) ho0 (fun _ hk_ => trivial)) (below_size (by repeat (first | (with_reducible first | exact HB.out | apply below_alloc | apply pw_below_drewN | apply below_drew1) | exact HB.out)))); have n2_ := Aside0.mk (Kd.N_lower (Kd.N_mono (ok' := fun k_ => some k_ ≠ (v505 : Value).ownBlock) ho1 (fun k_ hk_ => hk_.2)) (below_size (by repeat (first | (with_reducible first | exact HB.out | apply below_alloc | apply pw_below_drewN | apply below_drew1) | exact HB.out)))); have n3_ := Aside0.mk (below_step (by repeat (first | (with_reducible first | exact HB.out | apply below_alloc | apply pw_below_drewN | apply below_drew1) | exact HB.out)) hb); clear HO500; clear HB; have HO500 := n0_; have HO506 := n1_; have HO509 := n2_; have HB := n3_; clear n0_ n1_ n2_ n3_; (try clear hb); (try clear hb2); (try clear hk); (try clear hi); (try clear ho0); (try clear ho1)) | ((with_reducible refine gate_dst (N := 1) rfl ?_); refine box_event ?hg (N := 1) ?hd (cs := #[.int .i64 0, .int .i64 0, .string (⟨#[]⟩ : ByteArray), .slice none 0 0, .slice none 0 0]) (t := 25) ?hr ?_; (case hd => rfl); (case hg => rfl); (case hr => first | (go_simp; done) | (go_simp; rfl)); intro gb510 hg w22 hbox hb; have n0_ := Aside0.mk (Kd.N_below (Kd.N_elderB (by (with_reducible repeat (first | apply Kd.N_alloc | apply Kd.N_drewN | apply Kd.N_drew)); exact HO500.out) gb510 (Nat.le_of_eq hg.symm)) hb); have n1_ := Aside0.mk (Kd.R_below (by (with_reducible repeat (first | apply Kd.R_alloc | apply Kd.R_drewN | apply Kd.R_drew)); exact HO506.out) hb); have n2_ := Aside0.mk (Kd.N_below (Kd.N_elderB (by (with_reducible repeat (first | apply Kd.N_alloc | apply Kd.N_drewN | apply Kd.N_drew)); exact HO509.out) gb510 (Nat.le_of_eq hg.symm)) hb); have n3_ := Aside0.mk (below_step (by repeat (first | (with_reducible first | exact HB.out | apply below_alloc | apply pw_below_drewN | apply below_drew1) | exact HB.out)) hb); have n4_ := Aside0.mk (hbox); have n5_ := Aside0.mk ((by rw [hg]; exact (below_size (by repeat (first | (with_reducible first | exact HB.out | apply below_alloc | apply pw_below_drewN | apply below_drew1) | exact HB.out))) : w.heap.size ≤ gb510)); have n6_ := Aside0.mk ((by rw [hg]; exact (below_size (by repeat (first | (with_reducible first | exact HB.out | apply below_alloc | apply pw_below_drewN | apply below_drew1) | exact HB.out))) : w.heap.size ≤ gb510)); clear HO500; clear HO506; clear HO509; clear HB; have HO500 := n0_; have HO506 := n1_; have HO509 := n2_; have HB := n3_; have BK510 := n4_; have GW510 := n5_; have GE510 := n6_; clear n0_ n1_ n2_ n3_ n4_ n5_ n6_; clear hb hbox hg; have hcz23_0 : w22.cell? ⟨gb510, 0, none⟩ = some (.int .i64 0) := (blk_cell BK510.out 0).trans rfl; have hcz23_1 : w22.cell? ⟨gb510, 1, none⟩ = some (.int .i64 0) := (blk_cell BK510.out 1).trans rfl; have hcz23_2 : w22.cell? ⟨gb510, 2, none⟩ = some (.string (⟨#[]⟩ : ByteArray)) := (blk_cell BK510.out 2).trans rfl; have hcz23_3 : w22.cell? ⟨gb510, 3, none⟩ = some (.slice none 0 0) := (blk_cell BK510.out 3).trans rfl; have hcz23_4 : w22.cell? ⟨gb510, 4, none⟩ = some (.slice none 0 0) := (blk_cell BK510.out 4).trans rfl; have hfz23_0 := blk_frozen BK510.out 0; have hfz23_1 := blk_frozen BK510.out 1; have hfz23_2 := blk_frozen BK510.out 2; have hfz23_3 := blk_frozen BK510.out 3; have hfz23_4 := blk_frozen BK510.out 4; obtain ⟨Ao24, co24, eo24⟩ := Kd.R_slice HO506.out; subst eo24; obtain ⟨Ao25, co25, eo25⟩ := Kd.N_slice HO509.out; subst eo25))
        have n0_ : Aside0 (Kd.N k25 25 (((((w22.setCell ⟨gb510, 0, none⟩ (.int .i64 t501)).setCell ⟨gb510, 1, none⟩ (.int .i64 t502)).setCell ⟨gb510, 2, none⟩ (.string t503)).setCell ⟨gb510, 3, none⟩ (.slice Ao24 t504.length co24)).setCell ⟨gb510, 4, none⟩ (.slice Ao25 t507.length co25)) w.heap.size (fun k_ => some k_ ≠ (.slice Ao24 t504.length co24 : Value).ownBlock ∧ some k_ ≠ (.slice Ao25 t507.length co25 : Value).ownBlock ∧ k_ ≠ gb510) (.slice Ao20 y498.length co20) y498) := ⟨by (with_reducible repeat (first | apply Kd.N_alloc | apply Kd.N_drewN | apply Kd.N_drew)); exact Kd.N_mono (Kd.N_far (p := ⟨gb510, 4, none⟩) (Kd.N_far (p := ⟨gb510, 3, none⟩) (Kd.N_far (p := ⟨gb510, 2, none⟩) (Kd.N_far (p := ⟨gb510, 1, none⟩) (Kd.N_far (p := ⟨gb510, 0, none⟩) (Kd.N_mono HO500.out (fun k_ hk => (⟨hk, hk.2⟩ : _ ∧ k_ ≠ gb510))) (fun _ hk => hk.2) (.int .i64 t501)) (fun _ hk => hk.2) (.int .i64 t502)) (fun _ hk => hk.2) (.string t503)) (fun _ hk => hk.2) (.slice Ao24 t504.length co24)) (fun _ hk => hk.2) (.slice Ao25 t507.length co25)) (fun _ hk => ⟨hk.1.1.1.2, ⟨hk.1.1.2, hk.1.2⟩⟩)⟩
        have n1_ : Aside0 (Kd.R Kd.string 9 (((((w22.setCell ⟨gb510, 0, none⟩ (.int .i64 t501)).setCell ⟨gb510, 1, none⟩ (.int .i64 t502)).setCell ⟨gb510, 2, none⟩ (.string t503)).setCell ⟨gb510, 3, none⟩ (.slice Ao24 t504.length co24)).setCell ⟨gb510, 4, none⟩ (.slice Ao25 t507.length co25)) w.heap.size (fun _ => True) (.slice Ao24 t504.length co24) t504) := ⟨by (with_reducible repeat (first | apply Kd.R_alloc | apply Kd.R_drewN | apply Kd.R_drew)); exact Kd.R_mono (Kd.R_far (p := ⟨gb510, 4, none⟩) (Kd.R_far (p := ⟨gb510, 3, none⟩) (Kd.R_far (p := ⟨gb510, 2, none⟩) (Kd.R_far (p := ⟨gb510, 1, none⟩) (Kd.R_far (p := ⟨gb510, 0, none⟩) (Kd.R_types HO506.out BK510.out (by decide)) (fun _ hk => hk.2) (.int .i64 t501)) (fun _ hk => hk.2) (.int .i64 t502)) (fun _ hk => hk.2) (.string t503)) (fun _ hk => hk.2) (.slice Ao24 t504.length co24)) (fun _ hk => hk.2) (.slice Ao25 t507.length co25)) (fun _ hk => trivial)⟩
        have n2_ : Aside0 (Kd.N k25 25 (((((w22.setCell ⟨gb510, 0, none⟩ (.int .i64 t501)).setCell ⟨gb510, 1, none⟩ (.int .i64 t502)).setCell ⟨gb510, 2, none⟩ (.string t503)).setCell ⟨gb510, 3, none⟩ (.slice Ao24 t504.length co24)).setCell ⟨gb510, 4, none⟩ (.slice Ao25 t507.length co25)) w.heap.size (fun k_ => some k_ ≠ (.slice Ao24 t504.length co24 : Value).ownBlock ∧ k_ ≠ gb510) (.slice Ao25 t507.length co25) t507) := ⟨by (with_reducible repeat (first | apply Kd.N_alloc | apply Kd.N_drewN | apply Kd.N_drew)); exact Kd.N_mono (Kd.N_far (p := ⟨gb510, 4, none⟩) (Kd.N_far (p := ⟨gb510, 3, none⟩) (Kd.N_far (p := ⟨gb510, 2, none⟩) (Kd.N_far (p := ⟨gb510, 1, none⟩) (Kd.N_far (p := ⟨gb510, 0, none⟩) (Kd.N_mono HO509.out (fun k_ hk => (⟨hk, hk.2⟩ : _ ∧ k_ ≠ gb510))) (fun _ hk => hk.2) (.int .i64 t501)) (fun _ hk => hk.2) (.int .i64 t502)) (fun _ hk => hk.2) (.string t503)) (fun _ hk => hk.2) (.slice Ao24 t504.length co24)) (fun _ hk => hk.2) (.slice Ao25 t507.length co25)) (fun _ hk => ⟨hk.1.1, hk.1.2⟩)⟩
        have n3_ : Aside0 ((((((w22.setCell ⟨gb510, 0, none⟩ (.int .i64 t501)).setCell ⟨gb510, 1, none⟩ (.int .i64 t502)).setCell ⟨gb510, 2, none⟩ (.string t503)).setCell ⟨gb510, 3, none⟩ (.slice Ao24 t504.length co24)).setCell ⟨gb510, 4, none⟩ (.slice Ao25 t507.length co25)).heap[gb510]? = some (.cells #[.int .i64 t501, .int .i64 t502, .string t503, .slice Ao24 t504.length co24, .slice Ao25 t507.length co25] 25 (0, 0))) := ⟨by (with_reducible repeat (first | refine blk_drewN ?_ _ | refine blk_drew ?_ | refine blk_alloc ?_ _)); refine blk_put (cs := #[.int .i64 t501, .int .i64 t502, .string t503, .slice Ao24 t504.length co24, .slice none 0 0]) ?_ 4 _ rfl; (with_reducible repeat (first | refine blk_drewN ?_ _ | refine blk_drew ?_ | refine blk_alloc ?_ _)); refine blk_put (cs := #[.int .i64 t501, .int .i64 t502, .string t503, .slice none 0 0, .slice none 0 0]) ?_ 3 _ rfl; (with_reducible repeat (first | refine blk_drewN ?_ _ | refine blk_drew ?_ | refine blk_alloc ?_ _)); refine blk_put (cs := #[.int .i64 t501, .int .i64 t502, .string (⟨#[]⟩ : ByteArray), .slice none 0 0, .slice none 0 0]) ?_ 2 _ rfl; (with_reducible repeat (first | refine blk_drewN ?_ _ | refine blk_drew ?_ | refine blk_alloc ?_ _)); refine blk_put (cs := #[.int .i64 t501, .int .i64 0, .string (⟨#[]⟩ : ByteArray), .slice none 0 0, .slice none 0 0]) ?_ 1 _ rfl; (with_reducible repeat (first | refine blk_drewN ?_ _ | refine blk_drew ?_ | refine blk_alloc ?_ _)); refine blk_put (cs := #[.int .i64 0, .int .i64 0, .string (⟨#[]⟩ : ByteArray), .slice none 0 0, .slice none 0 0]) ?_ 0 _ rfl; (with_reducible repeat (first | refine blk_drewN ?_ _ | refine blk_drew ?_ | refine blk_alloc ?_ _)); exact BK510.out⟩
        have n4_ : Aside0 (Below w.heap.size w (((((w22.setCell ⟨gb510, 0, none⟩ (.int .i64 t501)).setCell ⟨gb510, 1, none⟩ (.int .i64 t502)).setCell ⟨gb510, 2, none⟩ (.string t503)).setCell ⟨gb510, 3, none⟩ (.slice Ao24 t504.length co24)).setCell ⟨gb510, 4, none⟩ (.slice Ao25 t507.length co25))) := ⟨by repeat (first | (with_reducible first | exact HB.out | apply below_alloc | apply pw_below_drewN | apply below_drew1 | refine below_set ?_ GE510.out) | exact HB.out)⟩
        (try clear HO500)
        (try clear HO506)
        (try clear HO509)
        (try clear BK510)
        (try clear HB)
        generalize (((((w22.setCell ⟨gb510, 0, none⟩ (.int .i64 t501)).setCell ⟨gb510, 1, none⟩ (.int .i64 t502)).setCell ⟨gb510, 2, none⟩ (.string t503)).setCell ⟨gb510, 3, none⟩ (.slice Ao24 t504.length co24)).setCell ⟨gb510, 4, none⟩ (.slice Ao25 t507.length co25)) = w26 at n0_ n1_ n2_ n3_ n4_ ⊢
        have HO500 := n0_
        have HO506 := n1_
        have HO509 := n2_
        have BK510 := n3_
        have HB := n4_
        clear n0_ n1_ n2_ n3_ n4_
        have n0_ := Aside0.mk (Kd.N_drew HO500.out)
        have n1_ := Aside0.mk (Kd.R_drew HO506.out)
        have n2_ := Aside0.mk (Kd.N_drew HO509.out)
        have n3_ := Aside0.mk (blk_drew BK510.out)
        have n4_ := Aside0.mk (below_drew1 HB.out)
        clear HO500
        clear HO506
        clear HO509
        clear BK510
        clear HB
        have HO500 := n0_
        have HO506 := n1_
        have HO509 := n2_
        have BK510 := n3_
        have HB := n4_
        clear n0_ n1_ n2_ n3_ n4_
        refine start_ (n := 10) (S := fun w' => w'.cell? ⟨gb510, 0, none⟩ = some (.int .i64 t501) ∧ w'.cell? ⟨gb510, 1, none⟩ = some (.int .i64 t502) ∧ w'.cell? ⟨gb510, 2, none⟩ = some (.string t503) ∧ w'.cell? ⟨gb510, 3, none⟩ = some (.slice Ao24 t504.length co24) ∧ w'.cell? ⟨gb510, 4, none⟩ = some (.slice Ao25 t507.length co25)) (ds := []) #[false, false, false, false, false, false, false, false, false, false] (by kernel_rfl) rfl rfl ⟨(blk_cell BK510.out 0).trans rfl, (blk_cell BK510.out 1).trans rfl, (blk_cell BK510.out 2).trans rfl, (blk_cell BK510.out 3).trans rfl, (blk_cell BK510.out 4).trans rfl⟩ (fun hHeld => ?_); refine with_tabW sealringlaw29_lives.tab2 sealringlaw29_lives.bits2 (fun HT_ HW_ => ?_)
        generalize w26.drew = w27 at HO500 HO506 HO509 BK510 HB hHeld ⊢
        refine take_ (i := 0) (N := some 11) (v := ?_) (a' := ?_) #[true, false, false, false, false, false, false, false, false, false] rfl rfl (take_ofW HT_.out HW_.out (by kernel_rfl)) (fun _ _ _ h => h) (Or.inl ⟨by rfl, ?_⟩) hHeld ?_ ?_
        rotate_left
        · rintro w' ⟨s0, s1, s2, s3, s4⟩
          go_simp
          with_reducible rfl
        rotate_left
        · simp only [Act.put, List.setIfInBounds_toArray, List.set_cons_zero, List.set_cons_succ, i64_w, i32_w]
          rfl
        refine one_ (i := 1) (N := some 12) #[true, true, false, false, false, false, false, false, false, false] rfl rfl (one_of HT_.out (by kernel_rfl)) (by decide) (fun K hK => ?_)
        refine Kd.R_lit_step Kd.string _ 9 ?hg (N := 12) ?hd (xs := ([(⟨#[97]⟩ : ByteArray)] : List ByteArray)) (inner := [.string (⟨#[97]⟩ : ByteArray)]) (ok := fun _ => True) (okp := fun _ => True) ?hr ?hp (fun _ hk => hk) trivial (Below.refl _ _) (Nat.le_refl _) (by simp) ?_; (case hd => rfl); (case hg => rfl); (case hr => first | (go_simp; done) | (go_simp; rfl)); (case hp => exact (Reps.one (show Kd.M Kd.string _ _ _ (⟨#[97]⟩ : ByteArray) [.string (⟨#[97]⟩ : ByteArray)] from rfl) (Reps.none _ _)))
        intro v512 w28 ho29 hb hg_ hnew_
        clear hg_ hnew_
        (first | rw [← Ny511.out] at ho29 | (simp only [Int.reduceToNat] at ho29; rw [← Ny511.out] at ho29))
        have n0_ := Aside0.mk (Kd.N_elder' (by (with_reducible repeat (first | apply Kd.N_alloc | apply Kd.N_drewN | apply Kd.N_drew)); exact HO500.out) (Kd.R_base ho29) hb)
        have n1_ := Aside0.mk (Kd.R_elder' (by (with_reducible repeat (first | apply Kd.R_alloc | apply Kd.R_drewN | apply Kd.R_drew)); exact HO506.out) (Kd.R_base ho29) hb)
        have n2_ := Aside0.mk (Kd.N_elder' (by (with_reducible repeat (first | apply Kd.N_alloc | apply Kd.N_drewN | apply Kd.N_drew)); exact HO509.out) (Kd.R_base ho29) hb)
        have n3_ := Aside0.mk (Kd.R_lower (Kd.R_new' ho29 (Kd.R_lt (by (with_reducible repeat (first | apply Kd.R_alloc | apply Kd.R_drewN | apply Kd.R_drew)); exact HO506.out))) (below_size (by repeat (first | (with_reducible first | exact HB.out | apply below_alloc | apply pw_below_drewN | apply below_drew1 | refine below_set ?_ GE510.out) | exact HB.out))))
        have n4_ := Aside0.mk (blk_below (g := gb510) (o := .cells #[.int .i64 t501, .int .i64 t502, .string t503, .slice Ao24 t504.length co24, .slice Ao25 t507.length co25] 25 (0, 0)) (by (with_reducible repeat (first | refine blk_drewN ?_ _ | refine blk_drew ?_ | refine blk_alloc ?_ _)); exact BK510.out) hb)
        have n5_ := Aside0.mk (below_step (by repeat (first | (with_reducible first | exact HB.out | apply below_alloc | apply pw_below_drewN | apply below_drew1 | refine below_set ?_ GE510.out) | exact HB.out)) hb)
        clear HO500
        clear HO506
        clear HO509
        clear BK510
        clear HB
        have HO500 := n0_
        have HO506 := n1_
        have HO509 := n2_
        have HO513 := n3_
        have BK510 := n4_
        have HB := n5_
        clear n0_ n1_ n2_ n3_ n4_ n5_
        clear hb ho29
        obtain ⟨Ao30, co30, eo30⟩ := Kd.R_slice HO513.out
        (first | subst eo30 | (injection eo30 with f1_ f2_ f3_; have f4_ := f1_.symm; have f5_ := f3_.symm; clear f1_ f2_ f3_; subst f4_; subst f5_))
        refine hK.out _ _ ⟨(blk_cell BK510.out 0).trans rfl, (blk_cell BK510.out 1).trans rfl, (blk_cell BK510.out 2).trans rfl, (blk_cell BK510.out 3).trans rfl, (blk_cell BK510.out 4).trans rfl⟩ (fun hHeld => ?_)
        clear hK K
        refine norm_ (a' := ?_) ?_ ?_
        rotate_left
        · show Act.put _ (some 12) _ = _
          simp only [Act.put, List.setIfInBounds_toArray, List.set_cons_zero, List.set_cons_succ, i64_w, i32_w]
          rfl
        refine one_ (i := 2) (N := some 13) #[true, true, true, false, false, false, false, false, false, false] rfl rfl (one_of HT_.out (by kernel_rfl)) (by decide) (fun K hK => ?_)
        refine goes_ Try.func27 (by kernel_rfl) rfl #[.int .i64 4, .slice Ao30 y511.length co30] (by rfl) rfl rfl (by (try simp only [List.map_toArray, List.map_cons, List.map_nil]); first | done | rfl | (simp only [List.length_drop, List.length_take]; rfl)) ?_
        with_reducible refine (field_May.calls k 4 _ _ y511 t514 _ ?side1 ?side2 A4.out).mono ?_
        (case side1 => repeat (first | exact (Kd.R_reads' HO513.out).2.2 | (with_reducible refine Kd.C_alloc ?_ _) | (with_reducible refine Kd.C_drewN ?_ _) | (with_reducible refine Kd.C_drew ?_)))
        (case side2 => exact (Kd.R_reads' HO513.out).2.1)
        rintro e w31 ⟨v515, rfl, ho0, hb⟩
        refine ⟨_, rfl, ?_⟩
        have n0_ := Aside0.mk (Kd.N_elder' (by (with_reducible repeat (first | apply Kd.N_alloc | apply Kd.N_drewN | apply Kd.N_drew)); exact HO500.out) (Kd.R_base ho0) hb)
        have n1_ := Aside0.mk (Kd.R_below (by (with_reducible repeat (first | apply Kd.R_alloc | apply Kd.R_drewN | apply Kd.R_drew)); exact HO506.out) hb)
        have n2_ := Aside0.mk (Kd.N_elder' (by (with_reducible repeat (first | apply Kd.N_alloc | apply Kd.N_drewN | apply Kd.N_drew)); exact HO509.out) (Kd.R_base ho0) hb)
        have n3_ := Aside0.mk (Kd.R_below (by (with_reducible repeat (first | apply Kd.R_alloc | apply Kd.R_drewN | apply Kd.R_drew)); exact HO513.out) hb)
        have n4_ := Aside0.mk (Kd.R_lower ho0 (below_size (by repeat (first | (with_reducible first | exact HB.out | apply below_alloc | apply pw_below_drewN | apply below_drew1 | refine below_set ?_ GE510.out) | exact HB.out))))
        have n5_ := Aside0.mk (blk_below (g := gb510) (o := .cells #[.int .i64 t501, .int .i64 t502, .string t503, .slice Ao24 t504.length co24, .slice Ao25 t507.length co25] 25 (0, 0)) (by (with_reducible repeat (first | refine blk_drewN ?_ _ | refine blk_drew ?_ | refine blk_alloc ?_ _)); exact BK510.out) hb)
        have n6_ := Aside0.mk (below_step (by repeat (first | (with_reducible first | exact HB.out | apply below_alloc | apply pw_below_drewN | apply below_drew1 | refine below_set ?_ GE510.out) | exact HB.out)) hb)
        clear HO500
        clear HO506
        clear HO509
        clear HO513
        clear BK510
        clear HB
        have HO500 := n0_
        have HO506 := n1_
        have HO509 := n2_
        have HO513 := n3_
        have HO516 := n4_
        have BK510 := n5_
        have HB := n6_
        clear n0_ n1_ n2_ n3_ n4_ n5_ n6_
        (try clear hb)
        (try clear hb2)
        (try clear hk)
        (try clear hi)
        (try clear ho0)
        obtain ⟨Ao32, co32, eo32⟩ := Kd.R_slice HO516.out
        (first | subst eo32 | (injection eo32 with f1_ f2_ f3_; have f4_ := f1_.symm; have f5_ := f3_.symm; clear f1_ f2_ f3_; subst f4_; subst f5_))
        refine hK.out _ _ ⟨(blk_cell BK510.out 0).trans rfl, (blk_cell BK510.out 1).trans rfl, (blk_cell BK510.out 2).trans rfl, (blk_cell BK510.out 3).trans rfl, (blk_cell BK510.out 4).trans rfl⟩ (fun hHeld => ?_)
        clear hK K
        refine norm_ (a' := ?_) ?_ ?_
        rotate_left
        · show Act.put _ (some 13) _ = _
          simp only [Act.put, List.setIfInBounds_toArray, List.set_cons_zero, List.set_cons_succ, i64_w, i32_w]
          rfl
        refine one_ (i := 3) (N := some 14) #[true, true, true, true, false, false, false, false, false, false] rfl rfl (one_of HT_.out (by kernel_rfl)) (by decide) (fun K hK => ?_)
        refine goes_ Try.func28 (by kernel_rfl) rfl #[.int .i64 1, .slice Ao32 t514.length co32] (by rfl) rfl rfl (by (try simp only [List.map_toArray, List.map_cons, List.map_nil]); first | done | rfl | (simp only [List.length_drop, List.length_take]; rfl)) ?_
        with_reducible refine (field_Most.calls 1 _ _ t514 t517 _ ?side1 ?side2 A5.out).mono ?_
        (case side1 => repeat (first | exact (Kd.R_reads' HO516.out).2.2 | (with_reducible refine Kd.C_alloc ?_ _) | (with_reducible refine Kd.C_drewN ?_ _) | (with_reducible refine Kd.C_drew ?_)))
        (case side2 => exact (Kd.R_reads' HO516.out).2.1)
        rintro e w33 ⟨v518, rfl, ho0, hb⟩
        refine ⟨_, rfl, ?_⟩
        have n0_ := Aside0.mk (Kd.N_elder' (by (with_reducible repeat (first | apply Kd.N_alloc | apply Kd.N_drewN | apply Kd.N_drew)); exact HO500.out) (Kd.R_base ho0) hb)
        have n1_ := Aside0.mk (Kd.R_below (by (with_reducible repeat (first | apply Kd.R_alloc | apply Kd.R_drewN | apply Kd.R_drew)); exact HO506.out) hb)
        have n2_ := Aside0.mk (Kd.N_elder' (by (with_reducible repeat (first | apply Kd.N_alloc | apply Kd.N_drewN | apply Kd.N_drew)); exact HO509.out) (Kd.R_base ho0) hb)
        have n3_ := Aside0.mk (Kd.R_below (by (with_reducible repeat (first | apply Kd.R_alloc | apply Kd.R_drewN | apply Kd.R_drew)); exact HO513.out) hb)
        have n4_ := Aside0.mk (Kd.R_elder' (by (with_reducible repeat (first | apply Kd.R_alloc | apply Kd.R_drewN | apply Kd.R_drew)); exact HO516.out) (Kd.R_base ho0) hb)
        have n5_ := Aside0.mk (Kd.R_lower (Kd.R_new' ho0 (Kd.R_lt (by (with_reducible repeat (first | apply Kd.R_alloc | apply Kd.R_drewN | apply Kd.R_drew)); exact HO516.out))) (below_size (by repeat (first | (with_reducible first | exact HB.out | apply below_alloc | apply pw_below_drewN | apply below_drew1 | refine below_set ?_ GE510.out) | exact HB.out))))
        have n6_ := Aside0.mk (blk_below (g := gb510) (o := .cells #[.int .i64 t501, .int .i64 t502, .string t503, .slice Ao24 t504.length co24, .slice Ao25 t507.length co25] 25 (0, 0)) (by (with_reducible repeat (first | refine blk_drewN ?_ _ | refine blk_drew ?_ | refine blk_alloc ?_ _)); exact BK510.out) hb)
        have n7_ := Aside0.mk (below_step (by repeat (first | (with_reducible first | exact HB.out | apply below_alloc | apply pw_below_drewN | apply below_drew1 | refine below_set ?_ GE510.out) | exact HB.out)) hb)
        clear HO500
        clear HO506
        clear HO509
        clear HO513
        clear HO516
        clear BK510
        clear HB
        have HO500 := n0_
        have HO506 := n1_
        have HO509 := n2_
        have HO513 := n3_
        have HO516 := n4_
        have HO519 := n5_
        have BK510 := n6_
        have HB := n7_
        clear n0_ n1_ n2_ n3_ n4_ n5_ n6_ n7_
        (try clear hb)
        (try clear hb2)
        (try clear hk)
        (try clear hi)
        (try clear ho0)
        obtain ⟨Ao34, co34, eo34⟩ := Kd.R_slice HO519.out
        (first | subst eo34 | (injection eo34 with f1_ f2_ f3_; have f4_ := f1_.symm; have f5_ := f3_.symm; clear f1_ f2_ f3_; subst f4_; subst f5_))
        refine hK.out _ _ ⟨(blk_cell BK510.out 0).trans rfl, (blk_cell BK510.out 1).trans rfl, (blk_cell BK510.out 2).trans rfl, (blk_cell BK510.out 3).trans rfl, (blk_cell BK510.out 4).trans rfl⟩ (fun hHeld => ?_)
        clear hK K
        refine norm_ (a' := ?_) ?_ ?_
        rotate_left
        · show Act.put _ (some 14) _ = _
          simp only [Act.put, List.setIfInBounds_toArray, List.set_cons_zero, List.set_cons_succ, i64_w, i32_w]
          rfl
        refine one_ (i := 4) (N := some 15) #[true, true, true, true, true, false, false, false, false, false] rfl rfl (one_of HT_.out (by kernel_rfl)) (by decide) (fun K hK => ?_)
        refine goes_ Try.func30 (by kernel_rfl) rfl #[.agg #[.int .i64 t501, .int .i64 t502, .string t503, .slice Ao24 t504.length co24, .slice Ao25 t507.length co25], .slice Ao34 t517.length co34] (by rfl) rfl rfl (by (try simp only [List.map_toArray, List.map_cons, List.map_nil]); first | done | rfl | (simp only [List.length_drop, List.length_take]; rfl)) ?_
        with_reducible refine (field_Check.calls k t501 t502 t503 _ _ t504 _ _ t507 _ _ t517 t520 t521 _ ?side1 ?side2 ?side3 ?side4 ?side5 ?side6 A6.out).mono ?_
        (case side1 => repeat (first | exact (Kd.R_reads' HO506.out).2.2 | (with_reducible refine Kd.C_alloc ?_ _) | (with_reducible refine Kd.C_drewN ?_ _) | (with_reducible refine Kd.C_drew ?_)))
        (case side2 => exact (Kd.R_reads' HO506.out).2.1)
        (case side3 => repeat (first | exact (Kd.N_reads' HO509.out).2.2 | (with_reducible refine Kd.C_alloc ?_ _) | (with_reducible refine Kd.C_drewN ?_ _) | (with_reducible refine Kd.C_drew ?_)))
        (case side4 => exact (Kd.N_reads' HO509.out).2.1)
        (case side5 => repeat (first | exact (Kd.R_reads' HO519.out).2.2 | (with_reducible refine Kd.C_alloc ?_ _) | (with_reducible refine Kd.C_drewN ?_ _) | (with_reducible refine Kd.C_drew ?_)))
        (case side6 => exact (Kd.R_reads' HO519.out).2.1)
        rintro e w35 ⟨rfl, hb⟩
        refine ⟨_, rfl, ?_⟩
        have n0_ := Aside0.mk (Kd.N_below (by (with_reducible repeat (first | apply Kd.N_alloc | apply Kd.N_drewN | apply Kd.N_drew)); exact HO500.out) hb)
        have n1_ := Aside0.mk (Kd.R_below (by (with_reducible repeat (first | apply Kd.R_alloc | apply Kd.R_drewN | apply Kd.R_drew)); exact HO506.out) hb)
        have n2_ := Aside0.mk (Kd.N_below (by (with_reducible repeat (first | apply Kd.N_alloc | apply Kd.N_drewN | apply Kd.N_drew)); exact HO509.out) hb)
        have n3_ := Aside0.mk (Kd.R_below (by (with_reducible repeat (first | apply Kd.R_alloc | apply Kd.R_drewN | apply Kd.R_drew)); exact HO513.out) hb)
        have n4_ := Aside0.mk (Kd.R_below (by (with_reducible repeat (first | apply Kd.R_alloc | apply Kd.R_drewN | apply Kd.R_drew)); exact HO516.out) hb)
        have n5_ := Aside0.mk (Kd.R_below (by (with_reducible repeat (first | apply Kd.R_alloc | apply Kd.R_drewN | apply Kd.R_drew)); exact HO519.out) hb)
        have n6_ := Aside0.mk (blk_below (g := gb510) (o := .cells #[.int .i64 t501, .int .i64 t502, .string t503, .slice Ao24 t504.length co24, .slice Ao25 t507.length co25] 25 (0, 0)) (by (with_reducible repeat (first | refine blk_drewN ?_ _ | refine blk_drew ?_ | refine blk_alloc ?_ _)); exact BK510.out) hb)
        have n7_ := Aside0.mk (below_step (by repeat (first | (with_reducible first | exact HB.out | apply below_alloc | apply pw_below_drewN | apply below_drew1 | refine below_set ?_ GE510.out) | exact HB.out)) hb)
        clear HO500
        clear HO506
        clear HO509
        clear HO513
        clear HO516
        clear HO519
        clear BK510
        clear HB
        have HO500 := n0_
        have HO506 := n1_
        have HO509 := n2_
        have HO513 := n3_
        have HO516 := n4_
        have HO519 := n5_
        have BK510 := n6_
        have HB := n7_
        clear n0_ n1_ n2_ n3_ n4_ n5_ n6_ n7_
        (try clear hb)
        (try clear hb2)
        (try clear hk)
        (try clear hi)
        refine hK.out _ _ ⟨(blk_cell BK510.out 0).trans rfl, (blk_cell BK510.out 1).trans rfl, (blk_cell BK510.out 2).trans rfl, (blk_cell BK510.out 3).trans rfl, (blk_cell BK510.out 4).trans rfl⟩ (fun hHeld => ?_)
        clear hK K
        refine norm_ (a' := ?_) ?_ ?_
        rotate_left
        · show Act.put _ (some 15) _ = _
          simp only [Act.put, List.setIfInBounds_toArray, List.set_cons_zero, List.set_cons_succ, i64_w, i32_w]
          rfl
        refine pure_ (i := 5) (N := some 10) (v := ?_) (a' := ?_) #[true, true, true, true, true, true, false, false, false, false] rfl rfl (any_of HT_.out (by kernel_rfl)) (fun _ _ _ h => h) (Or.inl ⟨by rfl, ?_⟩) ?_ ?_
        rotate_left
        · intro w'
          go_simp
          with_reducible rfl
        rotate_left
        · simp only [Act.put, List.setIfInBounds_toArray, List.set_cons_zero, List.set_cons_succ, i64_w, i32_w]
          rfl
        refine pure_ (i := 6) (N := some 16) (v := ?_) (a' := ?_) #[true, true, true, true, true, true, true, false, false, false] rfl rfl (any_of HT_.out (by kernel_rfl)) (fun _ _ _ h => h) (Or.inl ⟨by rfl, ?_⟩) ?_ ?_
        rotate_left
        · intro w'
          go_simp
          with_reducible rfl
        rotate_left
        · simp only [Act.put, List.setIfInBounds_toArray, List.set_cons_zero, List.set_cons_succ, i64_w, i32_w]
          rfl
        refine pure_ (i := 7) (N := some 17) (v := ?_) (a' := ?_) #[true, true, true, true, true, true, true, true, false, false] rfl rfl (any_of HT_.out (by kernel_rfl)) (fun _ _ _ h => h) (Or.inl ⟨by rfl, ?_⟩) ?_ ?_
        rotate_left
        · intro w'
          go_simp
          with_reducible rfl
        rotate_left
        · simp only [Act.put, List.setIfInBounds_toArray, List.set_cons_zero, List.set_cons_succ, i64_w, i32_w]
          rfl
        refine pure_ (i := 8) (N := some 2) (v := ?_) (a' := ?_) #[true, true, true, true, true, true, true, true, true, false] rfl rfl (any_of HT_.out (by kernel_rfl)) (fun _ _ _ h => h) (Or.inl ⟨by rfl, ?_⟩) ?_ ?_
        rotate_left
        · intro w'
          go_simp
          with_reducible rfl
        rotate_left
        · simp only [Act.put, List.setIfInBounds_toArray, List.set_cons_zero, List.set_cons_succ, i64_w, i32_w]
          rfl
        refine pure_ (i := 9) (N := some 3) (v := ?_) (a' := ?_) #[true, true, true, true, true, true, true, true, true, true] rfl rfl (any_of HT_.out (by kernel_rfl)) (fun _ _ _ h => h) (Or.inl ⟨by rfl, ?_⟩) ?_ ?_
        rotate_left
        · intro w'
          go_simp
          with_reducible rfl
        rotate_left
        · simp only [Act.put, List.setIfInBounds_toArray, List.set_cons_zero, List.set_cons_succ, i64_w, i32_w]
          rfl
        refine done_ (done_of HT_.out (by kernel_rfl)) ?_
        try go_wp2
        have n0_ := Aside0.mk (Kd.N_drew HO500.out)
        have n1_ := Aside0.mk (Kd.R_drew HO506.out)
        have n2_ := Aside0.mk (Kd.N_drew HO509.out)
        have n3_ := Aside0.mk (Kd.R_drew HO513.out)
        have n4_ := Aside0.mk (Kd.R_drew HO516.out)
        have n5_ := Aside0.mk (Kd.R_drew HO519.out)
        have n6_ := Aside0.mk (blk_drew BK510.out)
        have n7_ := Aside0.mk (below_drew1 HB.out)
        clear HO500
        clear HO506
        clear HO509
        clear HO513
        clear HO516
        clear HO519
        clear BK510
        clear HB
        have HO500 := n0_
        have HO506 := n1_
        have HO509 := n2_
        have HO513 := n3_
        have HO516 := n4_
        have HO519 := n5_
        have BK510 := n6_
        have HB := n7_
        clear n0_ n1_ n2_ n3_ n4_ n5_ n6_ n7_
        refine start_ (n := 9) (S := fun w' => w'.cell? ⟨gb510, 0, none⟩ = some (.int .i64 t501) ∧ w'.cell? ⟨gb510, 1, none⟩ = some (.int .i64 t502) ∧ w'.cell? ⟨gb510, 2, none⟩ = some (.string t503) ∧ w'.cell? ⟨gb510, 3, none⟩ = some (.slice Ao24 t504.length co24) ∧ w'.cell? ⟨gb510, 4, none⟩ = some (.slice Ao25 t507.length co25)) (ds := []) #[false, false, false, false, false, false, false, false, false] (by kernel_rfl) rfl rfl ⟨(blk_cell BK510.out 0).trans rfl, (blk_cell BK510.out 1).trans rfl, (blk_cell BK510.out 2).trans rfl, (blk_cell BK510.out 3).trans rfl, (blk_cell BK510.out 4).trans rfl⟩ (fun hHeld => ?_); refine with_tabW sealringlaw29_lives.tab3 sealringlaw29_lives.bits3 (fun HT_ HW_ => ?_)
        generalize w35.drew = w36 at HO500 HO506 HO509 HO513 HO516 HO519 BK510 HB hHeld ⊢
        refine take_ (i := 0) (N := some 19) (v := ?_) (a' := ?_) #[true, false, false, false, false, false, false, false, false] rfl rfl (take_ofW HT_.out HW_.out (by kernel_rfl)) (fun _ _ _ h => h) (Or.inl ⟨by rfl, ?_⟩) hHeld ?_ ?_
        rotate_left
        · rintro w' ⟨s0, s1, s2, s3, s4⟩
          go_simp
          with_reducible rfl
        rotate_left
        · simp only [Act.put, List.setIfInBounds_toArray, List.set_cons_zero, List.set_cons_succ, i64_w, i32_w]
          rfl
        refine one_ (i := 1) (N := some 20) #[true, true, false, false, false, false, false, false, false] rfl rfl (one_of HT_.out (by kernel_rfl)) (by decide) (fun K hK => ?_)
        refine Kd.R_lit_step Kd.string _ 9 ?hg (N := 20) ?hd (xs := ([(⟨#[98]⟩ : ByteArray)] : List ByteArray)) (inner := [.string (⟨#[98]⟩ : ByteArray)]) (ok := fun _ => True) (okp := fun _ => True) ?hr ?hp (fun _ hk => hk) trivial (Below.refl _ _) (Nat.le_refl _) (by simp) ?_; (case hd => rfl); (case hg => rfl); (case hr => first | (go_simp; done) | (go_simp; rfl)); (case hp => exact (Reps.one (show Kd.M Kd.string _ _ _ (⟨#[98]⟩ : ByteArray) [.string (⟨#[98]⟩ : ByteArray)] from rfl) (Reps.none _ _)))
        intro v523 w37 ho38 hb hg_ hnew_
        clear hg_ hnew_
        (first | rw [← Ny522.out] at ho38 | (simp only [Int.reduceToNat] at ho38; rw [← Ny522.out] at ho38))
        have n0_ := Aside0.mk (Kd.N_elder' (by (with_reducible repeat (first | apply Kd.N_alloc | apply Kd.N_drewN | apply Kd.N_drew)); exact HO500.out) (Kd.R_base ho38) hb)
        have n1_ := Aside0.mk (Kd.R_elder' (by (with_reducible repeat (first | apply Kd.R_alloc | apply Kd.R_drewN | apply Kd.R_drew)); exact HO506.out) (Kd.R_base ho38) hb)
        have n2_ := Aside0.mk (Kd.N_elder' (by (with_reducible repeat (first | apply Kd.N_alloc | apply Kd.N_drewN | apply Kd.N_drew)); exact HO509.out) (Kd.R_base ho38) hb)
        have n3_ := Aside0.mk (Kd.R_elder' (by (with_reducible repeat (first | apply Kd.R_alloc | apply Kd.R_drewN | apply Kd.R_drew)); exact HO513.out) (Kd.R_base ho38) hb)
        have n4_ := Aside0.mk (Kd.R_below (by (with_reducible repeat (first | apply Kd.R_alloc | apply Kd.R_drewN | apply Kd.R_drew)); exact HO516.out) hb)
        have n5_ := Aside0.mk (Kd.R_below (by (with_reducible repeat (first | apply Kd.R_alloc | apply Kd.R_drewN | apply Kd.R_drew)); exact HO519.out) hb)
        have n6_ := Aside0.mk (Kd.R_lower (Kd.R_new' (Kd.R_new' ho38 (Kd.R_lt (by (with_reducible repeat (first | apply Kd.R_alloc | apply Kd.R_drewN | apply Kd.R_drew)); exact HO506.out))) (Kd.R_lt (by (with_reducible repeat (first | apply Kd.R_alloc | apply Kd.R_drewN | apply Kd.R_drew)); exact HO513.out))) (below_size (by repeat (first | (with_reducible first | exact HB.out | apply below_alloc | apply pw_below_drewN | apply below_drew1 | refine below_set ?_ GE510.out) | exact HB.out))))
        have n7_ := Aside0.mk (blk_below (g := gb510) (o := .cells #[.int .i64 t501, .int .i64 t502, .string t503, .slice Ao24 t504.length co24, .slice Ao25 t507.length co25] 25 (0, 0)) (by (with_reducible repeat (first | refine blk_drewN ?_ _ | refine blk_drew ?_ | refine blk_alloc ?_ _)); exact BK510.out) hb)
        have n8_ := Aside0.mk (below_step (by repeat (first | (with_reducible first | exact HB.out | apply below_alloc | apply pw_below_drewN | apply below_drew1 | refine below_set ?_ GE510.out) | exact HB.out)) hb)
        clear HO500
        clear HO506
        clear HO509
        clear HO513
        clear HO516
        clear HO519
        clear BK510
        clear HB
        have HO500 := n0_
        have HO506 := n1_
        have HO509 := n2_
        have HO513 := n3_
        have HO516 := n4_
        have HO519 := n5_
        have HO524 := n6_
        have BK510 := n7_
        have HB := n8_
        clear n0_ n1_ n2_ n3_ n4_ n5_ n6_ n7_ n8_
        clear hb ho38
        obtain ⟨Ao39, co39, eo39⟩ := Kd.R_slice HO524.out
        (first | subst eo39 | (injection eo39 with f1_ f2_ f3_; have f4_ := f1_.symm; have f5_ := f3_.symm; clear f1_ f2_ f3_; subst f4_; subst f5_))
        refine hK.out _ _ ⟨(blk_cell BK510.out 0).trans rfl, (blk_cell BK510.out 1).trans rfl, (blk_cell BK510.out 2).trans rfl, (blk_cell BK510.out 3).trans rfl, (blk_cell BK510.out 4).trans rfl⟩ (fun hHeld => ?_)
        clear hK K
        refine norm_ (a' := ?_) ?_ ?_
        rotate_left
        · show Act.put _ (some 20) _ = _
          simp only [Act.put, List.setIfInBounds_toArray, List.set_cons_zero, List.set_cons_succ, i64_w, i32_w]
          rfl
        refine one_ (i := 2) (N := some 21) #[true, true, true, false, false, false, false, false, false] rfl rfl (one_of HT_.out (by kernel_rfl)) (by decide) (fun K hK => ?_)
        refine goes_ Try.func26 (by kernel_rfl) rfl #[.int .i64 0, .slice Ao39 y522.length co39] (by rfl) rfl rfl (by (try simp only [List.map_toArray, List.map_cons, List.map_nil]); first | done | rfl | (simp only [List.length_drop, List.length_take]; rfl)) ?_
        with_reducible refine (field_Must.calls k 0 _ _ y522 t525 _ ?side1 ?side2 A7.out).mono ?_
        (case side1 => repeat (first | exact (Kd.R_reads' HO524.out).2.2 | (with_reducible refine Kd.C_alloc ?_ _) | (with_reducible refine Kd.C_drewN ?_ _) | (with_reducible refine Kd.C_drew ?_)))
        (case side2 => exact (Kd.R_reads' HO524.out).2.1)
        rintro e w40 ⟨v526, rfl, ho0, hb⟩
        refine ⟨_, rfl, ?_⟩
        have n0_ := Aside0.mk (Kd.N_elder' (by (with_reducible repeat (first | apply Kd.N_alloc | apply Kd.N_drewN | apply Kd.N_drew)); exact HO500.out) (Kd.R_base ho0) hb)
        have n1_ := Aside0.mk (Kd.R_below (by (with_reducible repeat (first | apply Kd.R_alloc | apply Kd.R_drewN | apply Kd.R_drew)); exact HO506.out) hb)
        have n2_ := Aside0.mk (Kd.N_elder' (by (with_reducible repeat (first | apply Kd.N_alloc | apply Kd.N_drewN | apply Kd.N_drew)); exact HO509.out) (Kd.R_base ho0) hb)
        have n3_ := Aside0.mk (Kd.R_below (by (with_reducible repeat (first | apply Kd.R_alloc | apply Kd.R_drewN | apply Kd.R_drew)); exact HO513.out) hb)
        have n4_ := Aside0.mk (Kd.R_elder' (by (with_reducible repeat (first | apply Kd.R_alloc | apply Kd.R_drewN | apply Kd.R_drew)); exact HO516.out) (Kd.R_base ho0) hb)
        have n5_ := Aside0.mk (Kd.R_elder' (by (with_reducible repeat (first | apply Kd.R_alloc | apply Kd.R_drewN | apply Kd.R_drew)); exact HO519.out) (Kd.R_base ho0) hb)
        have n6_ := Aside0.mk (Kd.R_below (by (with_reducible repeat (first | apply Kd.R_alloc | apply Kd.R_drewN | apply Kd.R_drew)); exact HO524.out) hb)
        have n7_ := Aside0.mk (Kd.R_lower (Kd.R_new' (Kd.R_new' ho0 (Kd.R_lt (by (with_reducible repeat (first | apply Kd.R_alloc | apply Kd.R_drewN | apply Kd.R_drew)); exact HO516.out))) (Kd.R_lt (by (with_reducible repeat (first | apply Kd.R_alloc | apply Kd.R_drewN | apply Kd.R_drew)); exact HO519.out))) (below_size (by repeat (first | (with_reducible first | exact HB.out | apply below_alloc | apply pw_below_drewN | apply below_drew1 | refine below_set ?_ GE510.out) | exact HB.out))))
        have n8_ := Aside0.mk (blk_below (g := gb510) (o := .cells #[.int .i64 t501, .int .i64 t502, .string t503, .slice Ao24 t504.length co24, .slice Ao25 t507.length co25] 25 (0, 0)) (by (with_reducible repeat (first | refine blk_drewN ?_ _ | refine blk_drew ?_ | refine blk_alloc ?_ _)); exact BK510.out) hb)
        have n9_ := Aside0.mk (below_step (by repeat (first | (with_reducible first | exact HB.out | apply below_alloc | apply pw_below_drewN | apply below_drew1 | refine below_set ?_ GE510.out) | exact HB.out)) hb)
        clear HO500
        clear HO506
        clear HO509
        clear HO513
        clear HO516
        clear HO519
        clear HO524
        clear BK510
        clear HB
        have HO500 := n0_
        have HO506 := n1_
        have HO509 := n2_
        have HO513 := n3_
        have HO516 := n4_
        have HO519 := n5_
        have HO524 := n6_
        have HO527 := n7_
        have BK510 := n8_
        have HB := n9_
        clear n0_ n1_ n2_ n3_ n4_ n5_ n6_ n7_ n8_ n9_
        (try clear hb)
        (try clear hb2)
        (try clear hk)
        (try clear hi)
        (try clear ho0)
        obtain ⟨Ao41, co41, eo41⟩ := Kd.R_slice HO527.out
        (first | subst eo41 | (injection eo41 with f1_ f2_ f3_; have f4_ := f1_.symm; have f5_ := f3_.symm; clear f1_ f2_ f3_; subst f4_; subst f5_))
        refine hK.out _ _ ⟨(blk_cell BK510.out 0).trans rfl, (blk_cell BK510.out 1).trans rfl, (blk_cell BK510.out 2).trans rfl, (blk_cell BK510.out 3).trans rfl, (blk_cell BK510.out 4).trans rfl⟩ (fun hHeld => ?_)
        clear hK K
        refine norm_ (a' := ?_) ?_ ?_
        rotate_left
        · show Act.put _ (some 21) _ = _
          simp only [Act.put, List.setIfInBounds_toArray, List.set_cons_zero, List.set_cons_succ, i64_w, i32_w]
          rfl
        refine one_ (i := 3) (N := some 22) #[true, true, true, true, false, false, false, false, false] rfl rfl (one_of HT_.out (by kernel_rfl)) (by decide) (fun K hK => ?_)
        refine goes_ Try.func30 (by kernel_rfl) rfl #[.agg #[.int .i64 t501, .int .i64 t502, .string t503, .slice Ao24 t504.length co24, .slice Ao25 t507.length co25], .slice Ao41 t525.length co41] (by rfl) rfl rfl (by (try simp only [List.map_toArray, List.map_cons, List.map_nil]); first | done | rfl | (simp only [List.length_drop, List.length_take]; rfl)) ?_
        with_reducible refine (field_Check.calls k t501 t502 t503 _ _ t504 _ _ t507 _ _ t525 t528 t529 _ ?side1 ?side2 ?side3 ?side4 ?side5 ?side6 A8.out).mono ?_
        (case side1 => repeat (first | exact (Kd.R_reads' HO506.out).2.2 | (with_reducible refine Kd.C_alloc ?_ _) | (with_reducible refine Kd.C_drewN ?_ _) | (with_reducible refine Kd.C_drew ?_)))
        (case side2 => exact (Kd.R_reads' HO506.out).2.1)
        (case side3 => repeat (first | exact (Kd.N_reads' HO509.out).2.2 | (with_reducible refine Kd.C_alloc ?_ _) | (with_reducible refine Kd.C_drewN ?_ _) | (with_reducible refine Kd.C_drew ?_)))
        (case side4 => exact (Kd.N_reads' HO509.out).2.1)
        (case side5 => repeat (first | exact (Kd.R_reads' HO527.out).2.2 | (with_reducible refine Kd.C_alloc ?_ _) | (with_reducible refine Kd.C_drewN ?_ _) | (with_reducible refine Kd.C_drew ?_)))
        (case side6 => exact (Kd.R_reads' HO527.out).2.1)
        rintro e w42 ⟨rfl, hb⟩
        refine ⟨_, rfl, ?_⟩
        have n0_ := Aside0.mk (Kd.N_below (by (with_reducible repeat (first | apply Kd.N_alloc | apply Kd.N_drewN | apply Kd.N_drew)); exact HO500.out) hb)
        have n1_ := Aside0.mk (Kd.R_below (by (with_reducible repeat (first | apply Kd.R_alloc | apply Kd.R_drewN | apply Kd.R_drew)); exact HO506.out) hb)
        have n2_ := Aside0.mk (Kd.N_below (by (with_reducible repeat (first | apply Kd.N_alloc | apply Kd.N_drewN | apply Kd.N_drew)); exact HO509.out) hb)
        have n3_ := Aside0.mk (Kd.R_below (by (with_reducible repeat (first | apply Kd.R_alloc | apply Kd.R_drewN | apply Kd.R_drew)); exact HO513.out) hb)
        have n4_ := Aside0.mk (Kd.R_below (by (with_reducible repeat (first | apply Kd.R_alloc | apply Kd.R_drewN | apply Kd.R_drew)); exact HO516.out) hb)
        have n5_ := Aside0.mk (Kd.R_below (by (with_reducible repeat (first | apply Kd.R_alloc | apply Kd.R_drewN | apply Kd.R_drew)); exact HO519.out) hb)
        have n6_ := Aside0.mk (Kd.R_below (by (with_reducible repeat (first | apply Kd.R_alloc | apply Kd.R_drewN | apply Kd.R_drew)); exact HO524.out) hb)
        have n7_ := Aside0.mk (Kd.R_below (by (with_reducible repeat (first | apply Kd.R_alloc | apply Kd.R_drewN | apply Kd.R_drew)); exact HO527.out) hb)
        have n8_ := Aside0.mk (blk_below (g := gb510) (o := .cells #[.int .i64 t501, .int .i64 t502, .string t503, .slice Ao24 t504.length co24, .slice Ao25 t507.length co25] 25 (0, 0)) (by (with_reducible repeat (first | refine blk_drewN ?_ _ | refine blk_drew ?_ | refine blk_alloc ?_ _)); exact BK510.out) hb)
        have n9_ := Aside0.mk (below_step (by repeat (first | (with_reducible first | exact HB.out | apply below_alloc | apply pw_below_drewN | apply below_drew1 | refine below_set ?_ GE510.out) | exact HB.out)) hb)
        clear HO500
        clear HO506
        clear HO509
        clear HO513
        clear HO516
        clear HO519
        clear HO524
        clear HO527
        clear BK510
        clear HB
        have HO500 := n0_
        have HO506 := n1_
        have HO509 := n2_
        have HO513 := n3_
        have HO516 := n4_
        have HO519 := n5_
        have HO524 := n6_
        have HO527 := n7_
        have BK510 := n8_
        have HB := n9_
        clear n0_ n1_ n2_ n3_ n4_ n5_ n6_ n7_ n8_ n9_
        (try clear hb)
        (try clear hb2)
        (try clear hk)
        (try clear hi)
        refine hK.out _ _ ⟨(blk_cell BK510.out 0).trans rfl, (blk_cell BK510.out 1).trans rfl, (blk_cell BK510.out 2).trans rfl, (blk_cell BK510.out 3).trans rfl, (blk_cell BK510.out 4).trans rfl⟩ (fun hHeld => ?_)
        clear hK K
        refine norm_ (a' := ?_) ?_ ?_
        rotate_left
        · show Act.put _ (some 22) _ = _
          simp only [Act.put, List.setIfInBounds_toArray, List.set_cons_zero, List.set_cons_succ, i64_w, i32_w]
          rfl
        refine pure_ (i := 4) (N := some 18) (v := ?_) (a' := ?_) #[true, true, true, true, true, false, false, false, false] rfl rfl (any_of HT_.out (by kernel_rfl)) (fun _ _ _ h => h) (Or.inl ⟨by rfl, ?_⟩) ?_ ?_
        rotate_left
        · intro w'
          go_simp
          with_reducible rfl
        rotate_left
        · simp only [Act.put, List.setIfInBounds_toArray, List.set_cons_zero, List.set_cons_succ, i64_w, i32_w]
          rfl
        refine pure_ (i := 5) (N := some 23) (v := ?_) (a' := ?_) #[true, true, true, true, true, true, false, false, false] rfl rfl (any_of HT_.out (by kernel_rfl)) (fun _ _ _ h => h) (Or.inl ⟨by rfl, ?_⟩) ?_ ?_
        rotate_left
        · intro w'
          go_simp
          with_reducible rfl
        rotate_left
        · simp only [Act.put, List.setIfInBounds_toArray, List.set_cons_zero, List.set_cons_succ, i64_w, i32_w]
          rfl
        refine pure_ (i := 6) (N := some 24) (v := ?_) (a' := ?_) #[true, true, true, true, true, true, true, false, false] rfl rfl (any_of HT_.out (by kernel_rfl)) (fun _ _ _ h => h) (Or.inl ⟨by rfl, ?_⟩) ?_ ?_
        rotate_left
        · intro w'
          go_simp
          with_reducible rfl
        rotate_left
        · simp only [Act.put, List.setIfInBounds_toArray, List.set_cons_zero, List.set_cons_succ, i64_w, i32_w]
          rfl
        refine pure_ (i := 7) (N := some 4) (v := ?_) (a' := ?_) #[true, true, true, true, true, true, true, true, false] rfl rfl (any_of HT_.out (by kernel_rfl)) (fun _ _ _ h => h) (Or.inl ⟨by rfl, ?_⟩) ?_ ?_
        rotate_left
        · intro w'
          go_simp
          with_reducible rfl
        rotate_left
        · simp only [Act.put, List.setIfInBounds_toArray, List.set_cons_zero, List.set_cons_succ, i64_w, i32_w]
          rfl
        refine pure_ (i := 8) (N := some 5) (v := ?_) (a' := ?_) #[true, true, true, true, true, true, true, true, true] rfl rfl (any_of HT_.out (by kernel_rfl)) (fun _ _ _ h => h) (Or.inl ⟨by rfl, ?_⟩) ?_ ?_
        rotate_left
        · intro w'
          go_simp
          with_reducible rfl
        rotate_left
        · simp only [Act.put, List.setIfInBounds_toArray, List.set_cons_zero, List.set_cons_succ, i64_w, i32_w]
          rfl
        refine done_ (done_of HT_.out (by kernel_rfl)) ?_
        try go_wp2
        go_ret
        exact ⟨by first | rfl | (simp [errW_none, errW_some] <;> rfl) | (simp [*, errW_none, errW_some] <;> rfl), by repeat (first | (with_reducible first | exact HB.out | apply below_alloc | apply pw_below_drewN | apply below_drew1 | refine below_set ?_ GE510.out) | exact HB.out)⟩
      · rw [if_neg c11] at H
        have c11b0 : (t528.toList == ([98] : List UInt8)) = false := beq_eq_false_iff_ne.mpr c11
        have c11b1 : (t528.toList != ([98] : List UInt8)) = true := bne_iff_ne.mpr c11
        obtain rfl := Option.some.inj H
        have hu29 := Try.underlying29
        go_enter Try.func25, Try.ntmps25
        try go_wp2_with (first | ((with_reducible refine gate_callee (f := 23) rfl ?_); refine goesL_ (some 6) rfl rfl Try.func23 (by kernel_rfl) rfl #[.string (⟨#[97]⟩ : ByteArray)] rfl (by (try simp only [List.map_toArray, List.map_cons, List.map_nil]); first | done | rfl | (simp only [List.length_drop, List.length_take]; rfl)) ?_; (with_reducible refine (tree_Text.calls (⟨#[97]⟩ : ByteArray) t480 t481 t482 t483 t486 _ A1.out).mono ?_); rintro e w43 ⟨v484, v487, rfl, ho0, ho1, hb⟩; refine ⟨_, rfl, ?_⟩; have n0_ := Aside0.mk (Kd.R_lower ho0 (below_size (by repeat (first | (with_reducible first | exact HB.out | apply below_alloc | apply pw_below_drewN | apply below_drew1) | exact HB.out)))); have n1_ := Aside0.mk (Kd.N_lower (Kd.N_mono (ok' := fun k_ => some k_ ≠ (v484 : Value).ownBlock) (Kd.R_N (Kd.R_bound ho1)) (fun k_ hk_ => hk_.1)) (below_size (by repeat (first | (with_reducible first | exact HB.out | apply below_alloc | apply pw_below_drewN | apply below_drew1) | exact HB.out)))); have n2_ := Aside0.mk (below_step (by repeat (first | (with_reducible first | exact HB.out | apply below_alloc | apply pw_below_drewN | apply below_drew1) | exact HB.out)) hb); clear HB; have HO485 := n0_; have HO488 := n1_; have HB := n2_; clear n0_ n1_ n2_; (try clear hb); (try clear hb2); (try clear hk); (try clear hi); (try clear ho0); (try clear ho1)) | ((with_reducible refine gate_callee (f := 23) rfl ?_); refine goesL_ (some 7) rfl rfl Try.func23 (by kernel_rfl) rfl #[.string (⟨#[120, 121]⟩ : ByteArray)] rfl (by (try simp only [List.map_toArray, List.map_cons, List.map_nil]); first | done | rfl | (simp only [List.length_drop, List.length_take]; rfl)) ?_; (with_reducible refine (tree_Text.calls (⟨#[120, 121]⟩ : ByteArray) t489 t490 t491 t492 t495 _ A2.out).mono ?_); rintro e w44 ⟨v493, v496, rfl, ho0, ho1, hb⟩; refine ⟨_, rfl, ?_⟩; have n0_ := Aside0.mk (Kd.R_elder' (by (with_reducible repeat (first | apply Kd.R_alloc | apply Kd.R_drewN | apply Kd.R_drew)); exact HO485.out) (Kd.R_base ho0) hb); have n1_ := Aside0.mk (Kd.N_mono (Kd.N_told (Kd.N_told (Kd.N_old (by (with_reducible repeat (first | apply Kd.N_alloc | apply Kd.N_drewN | apply Kd.N_drew)); exact HO488.out) hb) (Kd.R_base ho0)) (by first | exact Kd.N_base ho1 | exact Kd.N_base (Kd.R_N (Kd.R_bound ho1)) | exact Kd.N_base (Kd.R_N ho1))) (fun _ h_ => h_.1)); have n2_ := Aside0.mk (Kd.R_lower (Kd.R_new' ho0 (Kd.R_lt (by (with_reducible repeat (first | apply Kd.R_alloc | apply Kd.R_drewN | apply Kd.R_drew)); exact HO485.out))) (below_size (by repeat (first | (with_reducible first | exact HB.out | apply below_alloc | apply pw_below_drewN | apply below_drew1) | exact HB.out)))); have n3_ := Aside0.mk (Kd.N_lower (Kd.N_mono (ok' := fun k_ => some k_ ≠ (v493 : Value).ownBlock ∧ some k_ ≠ (v484 : Value).ownBlock ∧ some k_ ≠ (v487 : Value).ownBlock) (Kd.R_N (Kd.R_bound ho1)) (fun k_ hk_ => ⟨hk_.1, (Kd.fresh' (Kd.R_lt (by (with_reducible repeat (first | apply Kd.R_alloc | apply Kd.R_drewN | apply Kd.R_drew)); exact HO485.out)) k_ hk_.2.1), (Kd.fresh' (Kd.N_lt (by (with_reducible repeat (first | apply Kd.N_alloc | apply Kd.N_drewN | apply Kd.N_drew)); exact HO488.out)) k_ hk_.2.1)⟩)) (below_size (by repeat (first | (with_reducible first | exact HB.out | apply below_alloc | apply pw_below_drewN | apply below_drew1) | exact HB.out)))); have n4_ := Aside0.mk (below_step (by repeat (first | (with_reducible first | exact HB.out | apply below_alloc | apply pw_below_drewN | apply below_drew1) | exact HB.out)) hb); clear HO485; clear HO488; clear HB; have HO485 := n0_; have HO488 := n1_; have HO494 := n2_; have HO497 := n3_; have HB := n4_; clear n0_ n1_ n2_ n3_ n4_; (try clear hb); (try clear hb2); (try clear hk); (try clear hi); (try clear ho0); (try clear ho1); obtain ⟨Ao45, co45, eo45⟩ := Kd.R_slice HO485.out; subst eo45; obtain ⟨Ao46, co46, eo46⟩ := Kd.N_slice HO488.out; subst eo46; obtain ⟨Ao47, co47, eo47⟩ := Kd.R_slice HO494.out; subst eo47; obtain ⟨Ao48, co48, eo48⟩ := Kd.N_slice HO497.out; subst eo48) | ((with_reducible refine gate_dst (N := 8) rfl ?_); refine Kd.N_lit k25 _ 25 ?hg (N' := 8) ?hd (xs := ([(⟨t480, t481, t482, t483, t486⟩ : S25), (⟨t489, t490, t491, t492, t495⟩ : S25)] : List (S25))) (inner := [.int .i64 t480, .int .i64 t481, .string t482, .slice Ao45 t483.length co45, .slice Ao46 t486.length co46, .int .i64 t489, .int .i64 t490, .string t491, .slice Ao47 t492.length co47, .slice Ao48 t495.length co48]) (ok := (fun _ => True)) (okp := (fun _ => True)) ?hr ?hp (fun _ hk => hk) ((show ∀ k_, w44.heap.size ≤ k_ → (fun _ => True) k_ from fun k_ hk => trivial) _ (Nat.le_refl _)) (Below.refl _ _) (Nat.le_refl _) (by simp) ?_; (case hd => rfl); (case hg => rfl); (case hr => first | (go_simp; done) | (go_simp; rfl)); (case hp => exact (Reps.c5 (show Kd.FK k25 _ _ (⟨t480, t481, t482, t483, t486⟩ : S25) [.int .i64 t480, .int .i64 t481, .string t482, .slice Ao45 t483.length co45, .slice Ao46 t486.length co46] from (k25_mkF _ _ (⟨t480, t481, t482, t483, t486⟩ : S25) (Kd.R_reads' (Kd.R_mono (ok' := (fun _ => True)) (HO485.out) (fun k_ hk => trivial))).2.1 (Kd.R_F (Kd.R_mono (ok' := (fun _ => True)) (HO485.out) (fun k_ hk => trivial))) (Kd.N_reads' (Kd.N_mono (ok' := (fun _ => True)) (HO488.out) (fun k_ hk => trivial))).2.1 (Kd.N_F (Kd.N_mono (ok' := (fun _ => True)) (HO488.out) (fun k_ hk => trivial))))) (Reps.c5 (show Kd.FK k25 _ _ (⟨t489, t490, t491, t492, t495⟩ : S25) [.int .i64 t489, .int .i64 t490, .string t491, .slice Ao47 t492.length co47, .slice Ao48 t495.length co48] from (k25_mkF _ _ (⟨t489, t490, t491, t492, t495⟩ : S25) (Kd.R_reads' (Kd.R_mono (ok' := (fun _ => True)) (HO494.out) (fun k_ hk => trivial))).2.1 (Kd.R_F (Kd.R_mono (ok' := (fun _ => True)) (HO494.out) (fun k_ hk => trivial))) (Kd.N_reads' (Kd.N_mono (ok' := (fun _ => True)) (HO497.out) (fun k_ hk => trivial))).2.1 (Kd.N_F (Kd.N_mono (ok' := (fun _ => True)) (HO497.out) (fun k_ hk => trivial))))) (Reps.none _ _)))); intro v499 w49 ho50 hb hg_ hnew_; clear hg_ hnew_; (first | rw [← Ny498.out] at ho50 | (simp only [Int.reduceToNat] at ho50; rw [← Ny498.out] at ho50)); have n0_ := Aside0.mk (Kd.N_lower ho50 (below_size (by repeat (first | (with_reducible first | exact HB.out | apply below_alloc | apply pw_below_drewN | apply below_drew1) | exact HB.out)))); have n1_ := Aside0.mk (below_step (by repeat (first | (with_reducible first | exact HB.out | apply below_alloc | apply pw_below_drewN | apply below_drew1) | exact HB.out)) hb); clear HB; clear HO485; clear HO488; clear HO494; clear HO497; have HO500 := n0_; have HB := n1_; clear n0_ n1_; clear hb ho50; obtain ⟨Ao51, co51, eo51⟩ := Kd.N_slice HO500.out; subst eo51) | ((with_reducible refine gate_callee (f := 22) rfl ?_); refine goesL_ (some 9) rfl rfl Try.func22 (by kernel_rfl) rfl #[.slice Ao51 y498.length co51] rfl (by (try simp only [List.map_toArray, List.map_cons, List.map_nil]); first | done | rfl | (simp only [List.length_drop, List.length_take]; rfl)) ?_; (with_reducible refine (tree_Map.calls k (fun k_ => True) _ _ y498 t501 t502 t503 t504 t507 _ ?side1 A3.out).mono ?_); (case side1 => exact Kd.N_V (HO500.out)); rintro e w52 ⟨v505, v508, rfl, ho0, ho1, hb⟩; refine ⟨_, rfl, ?_⟩; have n0_ := Aside0.mk (Kd.N_mono (Kd.N_told (Kd.N_told (Kd.N_old (by (with_reducible repeat (first | apply Kd.N_alloc | apply Kd.N_drewN | apply Kd.N_drew)); exact HO500.out) hb) (Kd.R_base ho0)) (by first | exact Kd.N_base ho1 | exact Kd.N_base (Kd.R_N (Kd.R_bound ho1)) | exact Kd.N_base (Kd.R_N ho1))) (fun _ h_ => h_.1)); have n1_ := Aside0.mk (Kd.R_lower (Kd.R_mono (ok' := fun k_ => True) ho0 (fun _ hk_ => trivial)) (below_size (by repeat (first | (with_reducible first | exact HB.out | apply below_alloc | apply pw_below_drewN | apply below_drew1) | exact HB.out)))); have n2_ := Aside0.mk (Kd.N_lower (Kd.N_mono (ok' := fun k_ => some k_ ≠ (v505 : Value).ownBlock) ho1 (fun k_ hk_ => hk_.2)) (below_size (by repeat (first | (with_reducible first | exact HB.out | apply below_alloc | apply pw_below_drewN | apply below_drew1) | exact HB.out)))); have n3_ := Aside0.mk (below_step (by repeat (first | (with_reducible first | exact HB.out | apply below_alloc | apply pw_below_drewN | apply below_drew1) | exact HB.out)) hb); clear HO500; clear HB; have HO500 := n0_; have HO506 := n1_; have HO509 := n2_; have HB := n3_; clear n0_ n1_ n2_ n3_; (try clear hb); (try clear hb2); (try clear hk); (try clear hi); (try clear ho0); (try clear ho1)) | ((with_reducible refine gate_dst (N := 1) rfl ?_); refine box_event ?hg (N := 1) ?hd (cs := #[.int .i64 0, .int .i64 0, .string (⟨#[]⟩ : ByteArray), .slice none 0 0, .slice none 0 0]) (t := 25) ?hr ?_; (case hd => rfl); (case hg => rfl); (case hr => first | (go_simp; done) | (go_simp; rfl)); intro gb510 hg w53 hbox hb; have n0_ := Aside0.mk (Kd.N_below (Kd.N_elderB (by (with_reducible repeat (first | apply Kd.N_alloc | apply Kd.N_drewN | apply Kd.N_drew)); exact HO500.out) gb510 (Nat.le_of_eq hg.symm)) hb); have n1_ := Aside0.mk (Kd.R_below (by (with_reducible repeat (first | apply Kd.R_alloc | apply Kd.R_drewN | apply Kd.R_drew)); exact HO506.out) hb); have n2_ := Aside0.mk (Kd.N_below (Kd.N_elderB (by (with_reducible repeat (first | apply Kd.N_alloc | apply Kd.N_drewN | apply Kd.N_drew)); exact HO509.out) gb510 (Nat.le_of_eq hg.symm)) hb); have n3_ := Aside0.mk (below_step (by repeat (first | (with_reducible first | exact HB.out | apply below_alloc | apply pw_below_drewN | apply below_drew1) | exact HB.out)) hb); have n4_ := Aside0.mk (hbox); have n5_ := Aside0.mk ((by rw [hg]; exact (below_size (by repeat (first | (with_reducible first | exact HB.out | apply below_alloc | apply pw_below_drewN | apply below_drew1) | exact HB.out))) : w.heap.size ≤ gb510)); have n6_ := Aside0.mk ((by rw [hg]; exact (below_size (by repeat (first | (with_reducible first | exact HB.out | apply below_alloc | apply pw_below_drewN | apply below_drew1) | exact HB.out))) : w.heap.size ≤ gb510)); clear HO500; clear HO506; clear HO509; clear HB; have HO500 := n0_; have HO506 := n1_; have HO509 := n2_; have HB := n3_; have BK510 := n4_; have GW510 := n5_; have GE510 := n6_; clear n0_ n1_ n2_ n3_ n4_ n5_ n6_; clear hb hbox hg; have hcz54_0 : w53.cell? ⟨gb510, 0, none⟩ = some (.int .i64 0) := (blk_cell BK510.out 0).trans rfl; have hcz54_1 : w53.cell? ⟨gb510, 1, none⟩ = some (.int .i64 0) := (blk_cell BK510.out 1).trans rfl; have hcz54_2 : w53.cell? ⟨gb510, 2, none⟩ = some (.string (⟨#[]⟩ : ByteArray)) := (blk_cell BK510.out 2).trans rfl; have hcz54_3 : w53.cell? ⟨gb510, 3, none⟩ = some (.slice none 0 0) := (blk_cell BK510.out 3).trans rfl; have hcz54_4 : w53.cell? ⟨gb510, 4, none⟩ = some (.slice none 0 0) := (blk_cell BK510.out 4).trans rfl; have hfz54_0 := blk_frozen BK510.out 0; have hfz54_1 := blk_frozen BK510.out 1; have hfz54_2 := blk_frozen BK510.out 2; have hfz54_3 := blk_frozen BK510.out 3; have hfz54_4 := blk_frozen BK510.out 4; obtain ⟨Ao55, co55, eo55⟩ := Kd.R_slice HO506.out; subst eo55; obtain ⟨Ao56, co56, eo56⟩ := Kd.N_slice HO509.out; subst eo56))
        have n0_ : Aside0 (Kd.N k25 25 (((((w53.setCell ⟨gb510, 0, none⟩ (.int .i64 t501)).setCell ⟨gb510, 1, none⟩ (.int .i64 t502)).setCell ⟨gb510, 2, none⟩ (.string t503)).setCell ⟨gb510, 3, none⟩ (.slice Ao55 t504.length co55)).setCell ⟨gb510, 4, none⟩ (.slice Ao56 t507.length co56)) w.heap.size (fun k_ => some k_ ≠ (.slice Ao55 t504.length co55 : Value).ownBlock ∧ some k_ ≠ (.slice Ao56 t507.length co56 : Value).ownBlock ∧ k_ ≠ gb510) (.slice Ao51 y498.length co51) y498) := ⟨by (with_reducible repeat (first | apply Kd.N_alloc | apply Kd.N_drewN | apply Kd.N_drew)); exact Kd.N_mono (Kd.N_far (p := ⟨gb510, 4, none⟩) (Kd.N_far (p := ⟨gb510, 3, none⟩) (Kd.N_far (p := ⟨gb510, 2, none⟩) (Kd.N_far (p := ⟨gb510, 1, none⟩) (Kd.N_far (p := ⟨gb510, 0, none⟩) (Kd.N_mono HO500.out (fun k_ hk => (⟨hk, hk.2⟩ : _ ∧ k_ ≠ gb510))) (fun _ hk => hk.2) (.int .i64 t501)) (fun _ hk => hk.2) (.int .i64 t502)) (fun _ hk => hk.2) (.string t503)) (fun _ hk => hk.2) (.slice Ao55 t504.length co55)) (fun _ hk => hk.2) (.slice Ao56 t507.length co56)) (fun _ hk => ⟨hk.1.1.1.2, ⟨hk.1.1.2, hk.1.2⟩⟩)⟩
        have n1_ : Aside0 (Kd.R Kd.string 9 (((((w53.setCell ⟨gb510, 0, none⟩ (.int .i64 t501)).setCell ⟨gb510, 1, none⟩ (.int .i64 t502)).setCell ⟨gb510, 2, none⟩ (.string t503)).setCell ⟨gb510, 3, none⟩ (.slice Ao55 t504.length co55)).setCell ⟨gb510, 4, none⟩ (.slice Ao56 t507.length co56)) w.heap.size (fun _ => True) (.slice Ao55 t504.length co55) t504) := ⟨by (with_reducible repeat (first | apply Kd.R_alloc | apply Kd.R_drewN | apply Kd.R_drew)); exact Kd.R_mono (Kd.R_far (p := ⟨gb510, 4, none⟩) (Kd.R_far (p := ⟨gb510, 3, none⟩) (Kd.R_far (p := ⟨gb510, 2, none⟩) (Kd.R_far (p := ⟨gb510, 1, none⟩) (Kd.R_far (p := ⟨gb510, 0, none⟩) (Kd.R_types HO506.out BK510.out (by decide)) (fun _ hk => hk.2) (.int .i64 t501)) (fun _ hk => hk.2) (.int .i64 t502)) (fun _ hk => hk.2) (.string t503)) (fun _ hk => hk.2) (.slice Ao55 t504.length co55)) (fun _ hk => hk.2) (.slice Ao56 t507.length co56)) (fun _ hk => trivial)⟩
        have n2_ : Aside0 (Kd.N k25 25 (((((w53.setCell ⟨gb510, 0, none⟩ (.int .i64 t501)).setCell ⟨gb510, 1, none⟩ (.int .i64 t502)).setCell ⟨gb510, 2, none⟩ (.string t503)).setCell ⟨gb510, 3, none⟩ (.slice Ao55 t504.length co55)).setCell ⟨gb510, 4, none⟩ (.slice Ao56 t507.length co56)) w.heap.size (fun k_ => some k_ ≠ (.slice Ao55 t504.length co55 : Value).ownBlock ∧ k_ ≠ gb510) (.slice Ao56 t507.length co56) t507) := ⟨by (with_reducible repeat (first | apply Kd.N_alloc | apply Kd.N_drewN | apply Kd.N_drew)); exact Kd.N_mono (Kd.N_far (p := ⟨gb510, 4, none⟩) (Kd.N_far (p := ⟨gb510, 3, none⟩) (Kd.N_far (p := ⟨gb510, 2, none⟩) (Kd.N_far (p := ⟨gb510, 1, none⟩) (Kd.N_far (p := ⟨gb510, 0, none⟩) (Kd.N_mono HO509.out (fun k_ hk => (⟨hk, hk.2⟩ : _ ∧ k_ ≠ gb510))) (fun _ hk => hk.2) (.int .i64 t501)) (fun _ hk => hk.2) (.int .i64 t502)) (fun _ hk => hk.2) (.string t503)) (fun _ hk => hk.2) (.slice Ao55 t504.length co55)) (fun _ hk => hk.2) (.slice Ao56 t507.length co56)) (fun _ hk => ⟨hk.1.1, hk.1.2⟩)⟩
        have n3_ : Aside0 ((((((w53.setCell ⟨gb510, 0, none⟩ (.int .i64 t501)).setCell ⟨gb510, 1, none⟩ (.int .i64 t502)).setCell ⟨gb510, 2, none⟩ (.string t503)).setCell ⟨gb510, 3, none⟩ (.slice Ao55 t504.length co55)).setCell ⟨gb510, 4, none⟩ (.slice Ao56 t507.length co56)).heap[gb510]? = some (.cells #[.int .i64 t501, .int .i64 t502, .string t503, .slice Ao55 t504.length co55, .slice Ao56 t507.length co56] 25 (0, 0))) := ⟨by (with_reducible repeat (first | refine blk_drewN ?_ _ | refine blk_drew ?_ | refine blk_alloc ?_ _)); refine blk_put (cs := #[.int .i64 t501, .int .i64 t502, .string t503, .slice Ao55 t504.length co55, .slice none 0 0]) ?_ 4 _ rfl; (with_reducible repeat (first | refine blk_drewN ?_ _ | refine blk_drew ?_ | refine blk_alloc ?_ _)); refine blk_put (cs := #[.int .i64 t501, .int .i64 t502, .string t503, .slice none 0 0, .slice none 0 0]) ?_ 3 _ rfl; (with_reducible repeat (first | refine blk_drewN ?_ _ | refine blk_drew ?_ | refine blk_alloc ?_ _)); refine blk_put (cs := #[.int .i64 t501, .int .i64 t502, .string (⟨#[]⟩ : ByteArray), .slice none 0 0, .slice none 0 0]) ?_ 2 _ rfl; (with_reducible repeat (first | refine blk_drewN ?_ _ | refine blk_drew ?_ | refine blk_alloc ?_ _)); refine blk_put (cs := #[.int .i64 t501, .int .i64 0, .string (⟨#[]⟩ : ByteArray), .slice none 0 0, .slice none 0 0]) ?_ 1 _ rfl; (with_reducible repeat (first | refine blk_drewN ?_ _ | refine blk_drew ?_ | refine blk_alloc ?_ _)); refine blk_put (cs := #[.int .i64 0, .int .i64 0, .string (⟨#[]⟩ : ByteArray), .slice none 0 0, .slice none 0 0]) ?_ 0 _ rfl; (with_reducible repeat (first | refine blk_drewN ?_ _ | refine blk_drew ?_ | refine blk_alloc ?_ _)); exact BK510.out⟩
        have n4_ : Aside0 (Below w.heap.size w (((((w53.setCell ⟨gb510, 0, none⟩ (.int .i64 t501)).setCell ⟨gb510, 1, none⟩ (.int .i64 t502)).setCell ⟨gb510, 2, none⟩ (.string t503)).setCell ⟨gb510, 3, none⟩ (.slice Ao55 t504.length co55)).setCell ⟨gb510, 4, none⟩ (.slice Ao56 t507.length co56))) := ⟨by repeat (first | (with_reducible first | exact HB.out | apply below_alloc | apply pw_below_drewN | apply below_drew1 | refine below_set ?_ GE510.out) | exact HB.out)⟩
        (try clear HO500)
        (try clear HO506)
        (try clear HO509)
        (try clear BK510)
        (try clear HB)
        generalize (((((w53.setCell ⟨gb510, 0, none⟩ (.int .i64 t501)).setCell ⟨gb510, 1, none⟩ (.int .i64 t502)).setCell ⟨gb510, 2, none⟩ (.string t503)).setCell ⟨gb510, 3, none⟩ (.slice Ao55 t504.length co55)).setCell ⟨gb510, 4, none⟩ (.slice Ao56 t507.length co56)) = w57 at n0_ n1_ n2_ n3_ n4_ ⊢
        have HO500 := n0_
        have HO506 := n1_
        have HO509 := n2_
        have BK510 := n3_
        have HB := n4_
        clear n0_ n1_ n2_ n3_ n4_
        have n0_ := Aside0.mk (Kd.N_drew HO500.out)
        have n1_ := Aside0.mk (Kd.R_drew HO506.out)
        have n2_ := Aside0.mk (Kd.N_drew HO509.out)
        have n3_ := Aside0.mk (blk_drew BK510.out)
        have n4_ := Aside0.mk (below_drew1 HB.out)
        clear HO500
        clear HO506
        clear HO509
        clear BK510
        clear HB
        have HO500 := n0_
        have HO506 := n1_
        have HO509 := n2_
        have BK510 := n3_
        have HB := n4_
        clear n0_ n1_ n2_ n3_ n4_
        refine start_ (n := 10) (S := fun w' => w'.cell? ⟨gb510, 0, none⟩ = some (.int .i64 t501) ∧ w'.cell? ⟨gb510, 1, none⟩ = some (.int .i64 t502) ∧ w'.cell? ⟨gb510, 2, none⟩ = some (.string t503) ∧ w'.cell? ⟨gb510, 3, none⟩ = some (.slice Ao55 t504.length co55) ∧ w'.cell? ⟨gb510, 4, none⟩ = some (.slice Ao56 t507.length co56)) (ds := []) #[false, false, false, false, false, false, false, false, false, false] (by kernel_rfl) rfl rfl ⟨(blk_cell BK510.out 0).trans rfl, (blk_cell BK510.out 1).trans rfl, (blk_cell BK510.out 2).trans rfl, (blk_cell BK510.out 3).trans rfl, (blk_cell BK510.out 4).trans rfl⟩ (fun hHeld => ?_); refine with_tabW sealringlaw29_lives.tab2 sealringlaw29_lives.bits2 (fun HT_ HW_ => ?_)
        generalize w57.drew = w58 at HO500 HO506 HO509 BK510 HB hHeld ⊢
        refine take_ (i := 0) (N := some 11) (v := ?_) (a' := ?_) #[true, false, false, false, false, false, false, false, false, false] rfl rfl (take_ofW HT_.out HW_.out (by kernel_rfl)) (fun _ _ _ h => h) (Or.inl ⟨by rfl, ?_⟩) hHeld ?_ ?_
        rotate_left
        · rintro w' ⟨s0, s1, s2, s3, s4⟩
          go_simp
          with_reducible rfl
        rotate_left
        · simp only [Act.put, List.setIfInBounds_toArray, List.set_cons_zero, List.set_cons_succ, i64_w, i32_w]
          rfl
        refine one_ (i := 1) (N := some 12) #[true, true, false, false, false, false, false, false, false, false] rfl rfl (one_of HT_.out (by kernel_rfl)) (by decide) (fun K hK => ?_)
        refine Kd.R_lit_step Kd.string _ 9 ?hg (N := 12) ?hd (xs := ([(⟨#[97]⟩ : ByteArray)] : List ByteArray)) (inner := [.string (⟨#[97]⟩ : ByteArray)]) (ok := fun _ => True) (okp := fun _ => True) ?hr ?hp (fun _ hk => hk) trivial (Below.refl _ _) (Nat.le_refl _) (by simp) ?_; (case hd => rfl); (case hg => rfl); (case hr => first | (go_simp; done) | (go_simp; rfl)); (case hp => exact (Reps.one (show Kd.M Kd.string _ _ _ (⟨#[97]⟩ : ByteArray) [.string (⟨#[97]⟩ : ByteArray)] from rfl) (Reps.none _ _)))
        intro v512 w59 ho60 hb hg_ hnew_
        clear hg_ hnew_
        (first | rw [← Ny511.out] at ho60 | (simp only [Int.reduceToNat] at ho60; rw [← Ny511.out] at ho60))
        have n0_ := Aside0.mk (Kd.N_elder' (by (with_reducible repeat (first | apply Kd.N_alloc | apply Kd.N_drewN | apply Kd.N_drew)); exact HO500.out) (Kd.R_base ho60) hb)
        have n1_ := Aside0.mk (Kd.R_elder' (by (with_reducible repeat (first | apply Kd.R_alloc | apply Kd.R_drewN | apply Kd.R_drew)); exact HO506.out) (Kd.R_base ho60) hb)
        have n2_ := Aside0.mk (Kd.N_elder' (by (with_reducible repeat (first | apply Kd.N_alloc | apply Kd.N_drewN | apply Kd.N_drew)); exact HO509.out) (Kd.R_base ho60) hb)
        have n3_ := Aside0.mk (Kd.R_lower (Kd.R_new' ho60 (Kd.R_lt (by (with_reducible repeat (first | apply Kd.R_alloc | apply Kd.R_drewN | apply Kd.R_drew)); exact HO506.out))) (below_size (by repeat (first | (with_reducible first | exact HB.out | apply below_alloc | apply pw_below_drewN | apply below_drew1 | refine below_set ?_ GE510.out) | exact HB.out))))
        have n4_ := Aside0.mk (blk_below (g := gb510) (o := .cells #[.int .i64 t501, .int .i64 t502, .string t503, .slice Ao55 t504.length co55, .slice Ao56 t507.length co56] 25 (0, 0)) (by (with_reducible repeat (first | refine blk_drewN ?_ _ | refine blk_drew ?_ | refine blk_alloc ?_ _)); exact BK510.out) hb)
        have n5_ := Aside0.mk (below_step (by repeat (first | (with_reducible first | exact HB.out | apply below_alloc | apply pw_below_drewN | apply below_drew1 | refine below_set ?_ GE510.out) | exact HB.out)) hb)
        clear HO500
        clear HO506
        clear HO509
        clear BK510
        clear HB
        have HO500 := n0_
        have HO506 := n1_
        have HO509 := n2_
        have HO513 := n3_
        have BK510 := n4_
        have HB := n5_
        clear n0_ n1_ n2_ n3_ n4_ n5_
        clear hb ho60
        obtain ⟨Ao61, co61, eo61⟩ := Kd.R_slice HO513.out
        (first | subst eo61 | (injection eo61 with f1_ f2_ f3_; have f4_ := f1_.symm; have f5_ := f3_.symm; clear f1_ f2_ f3_; subst f4_; subst f5_))
        refine hK.out _ _ ⟨(blk_cell BK510.out 0).trans rfl, (blk_cell BK510.out 1).trans rfl, (blk_cell BK510.out 2).trans rfl, (blk_cell BK510.out 3).trans rfl, (blk_cell BK510.out 4).trans rfl⟩ (fun hHeld => ?_)
        clear hK K
        refine norm_ (a' := ?_) ?_ ?_
        rotate_left
        · show Act.put _ (some 12) _ = _
          simp only [Act.put, List.setIfInBounds_toArray, List.set_cons_zero, List.set_cons_succ, i64_w, i32_w]
          rfl
        refine one_ (i := 2) (N := some 13) #[true, true, true, false, false, false, false, false, false, false] rfl rfl (one_of HT_.out (by kernel_rfl)) (by decide) (fun K hK => ?_)
        refine goes_ Try.func27 (by kernel_rfl) rfl #[.int .i64 4, .slice Ao61 y511.length co61] (by rfl) rfl rfl (by (try simp only [List.map_toArray, List.map_cons, List.map_nil]); first | done | rfl | (simp only [List.length_drop, List.length_take]; rfl)) ?_
        with_reducible refine (field_May.calls k 4 _ _ y511 t514 _ ?side1 ?side2 A4.out).mono ?_
        (case side1 => repeat (first | exact (Kd.R_reads' HO513.out).2.2 | (with_reducible refine Kd.C_alloc ?_ _) | (with_reducible refine Kd.C_drewN ?_ _) | (with_reducible refine Kd.C_drew ?_)))
        (case side2 => exact (Kd.R_reads' HO513.out).2.1)
        rintro e w62 ⟨v515, rfl, ho0, hb⟩
        refine ⟨_, rfl, ?_⟩
        have n0_ := Aside0.mk (Kd.N_elder' (by (with_reducible repeat (first | apply Kd.N_alloc | apply Kd.N_drewN | apply Kd.N_drew)); exact HO500.out) (Kd.R_base ho0) hb)
        have n1_ := Aside0.mk (Kd.R_below (by (with_reducible repeat (first | apply Kd.R_alloc | apply Kd.R_drewN | apply Kd.R_drew)); exact HO506.out) hb)
        have n2_ := Aside0.mk (Kd.N_elder' (by (with_reducible repeat (first | apply Kd.N_alloc | apply Kd.N_drewN | apply Kd.N_drew)); exact HO509.out) (Kd.R_base ho0) hb)
        have n3_ := Aside0.mk (Kd.R_below (by (with_reducible repeat (first | apply Kd.R_alloc | apply Kd.R_drewN | apply Kd.R_drew)); exact HO513.out) hb)
        have n4_ := Aside0.mk (Kd.R_lower ho0 (below_size (by repeat (first | (with_reducible first | exact HB.out | apply below_alloc | apply pw_below_drewN | apply below_drew1 | refine below_set ?_ GE510.out) | exact HB.out))))
        have n5_ := Aside0.mk (blk_below (g := gb510) (o := .cells #[.int .i64 t501, .int .i64 t502, .string t503, .slice Ao55 t504.length co55, .slice Ao56 t507.length co56] 25 (0, 0)) (by (with_reducible repeat (first | refine blk_drewN ?_ _ | refine blk_drew ?_ | refine blk_alloc ?_ _)); exact BK510.out) hb)
        have n6_ := Aside0.mk (below_step (by repeat (first | (with_reducible first | exact HB.out | apply below_alloc | apply pw_below_drewN | apply below_drew1 | refine below_set ?_ GE510.out) | exact HB.out)) hb)
        clear HO500
        clear HO506
        clear HO509
        clear HO513
        clear BK510
        clear HB
        have HO500 := n0_
        have HO506 := n1_
        have HO509 := n2_
        have HO513 := n3_
        have HO516 := n4_
        have BK510 := n5_
        have HB := n6_
        clear n0_ n1_ n2_ n3_ n4_ n5_ n6_
        (try clear hb)
        (try clear hb2)
        (try clear hk)
        (try clear hi)
        (try clear ho0)
        obtain ⟨Ao63, co63, eo63⟩ := Kd.R_slice HO516.out
        (first | subst eo63 | (injection eo63 with f1_ f2_ f3_; have f4_ := f1_.symm; have f5_ := f3_.symm; clear f1_ f2_ f3_; subst f4_; subst f5_))
        refine hK.out _ _ ⟨(blk_cell BK510.out 0).trans rfl, (blk_cell BK510.out 1).trans rfl, (blk_cell BK510.out 2).trans rfl, (blk_cell BK510.out 3).trans rfl, (blk_cell BK510.out 4).trans rfl⟩ (fun hHeld => ?_)
        clear hK K
        refine norm_ (a' := ?_) ?_ ?_
        rotate_left
        · show Act.put _ (some 13) _ = _
          simp only [Act.put, List.setIfInBounds_toArray, List.set_cons_zero, List.set_cons_succ, i64_w, i32_w]
          rfl
        refine one_ (i := 3) (N := some 14) #[true, true, true, true, false, false, false, false, false, false] rfl rfl (one_of HT_.out (by kernel_rfl)) (by decide) (fun K hK => ?_)
        refine goes_ Try.func28 (by kernel_rfl) rfl #[.int .i64 1, .slice Ao63 t514.length co63] (by rfl) rfl rfl (by (try simp only [List.map_toArray, List.map_cons, List.map_nil]); first | done | rfl | (simp only [List.length_drop, List.length_take]; rfl)) ?_
        with_reducible refine (field_Most.calls 1 _ _ t514 t517 _ ?side1 ?side2 A5.out).mono ?_
        (case side1 => repeat (first | exact (Kd.R_reads' HO516.out).2.2 | (with_reducible refine Kd.C_alloc ?_ _) | (with_reducible refine Kd.C_drewN ?_ _) | (with_reducible refine Kd.C_drew ?_)))
        (case side2 => exact (Kd.R_reads' HO516.out).2.1)
        rintro e w64 ⟨v518, rfl, ho0, hb⟩
        refine ⟨_, rfl, ?_⟩
        have n0_ := Aside0.mk (Kd.N_elder' (by (with_reducible repeat (first | apply Kd.N_alloc | apply Kd.N_drewN | apply Kd.N_drew)); exact HO500.out) (Kd.R_base ho0) hb)
        have n1_ := Aside0.mk (Kd.R_below (by (with_reducible repeat (first | apply Kd.R_alloc | apply Kd.R_drewN | apply Kd.R_drew)); exact HO506.out) hb)
        have n2_ := Aside0.mk (Kd.N_elder' (by (with_reducible repeat (first | apply Kd.N_alloc | apply Kd.N_drewN | apply Kd.N_drew)); exact HO509.out) (Kd.R_base ho0) hb)
        have n3_ := Aside0.mk (Kd.R_below (by (with_reducible repeat (first | apply Kd.R_alloc | apply Kd.R_drewN | apply Kd.R_drew)); exact HO513.out) hb)
        have n4_ := Aside0.mk (Kd.R_elder' (by (with_reducible repeat (first | apply Kd.R_alloc | apply Kd.R_drewN | apply Kd.R_drew)); exact HO516.out) (Kd.R_base ho0) hb)
        have n5_ := Aside0.mk (Kd.R_lower (Kd.R_new' ho0 (Kd.R_lt (by (with_reducible repeat (first | apply Kd.R_alloc | apply Kd.R_drewN | apply Kd.R_drew)); exact HO516.out))) (below_size (by repeat (first | (with_reducible first | exact HB.out | apply below_alloc | apply pw_below_drewN | apply below_drew1 | refine below_set ?_ GE510.out) | exact HB.out))))
        have n6_ := Aside0.mk (blk_below (g := gb510) (o := .cells #[.int .i64 t501, .int .i64 t502, .string t503, .slice Ao55 t504.length co55, .slice Ao56 t507.length co56] 25 (0, 0)) (by (with_reducible repeat (first | refine blk_drewN ?_ _ | refine blk_drew ?_ | refine blk_alloc ?_ _)); exact BK510.out) hb)
        have n7_ := Aside0.mk (below_step (by repeat (first | (with_reducible first | exact HB.out | apply below_alloc | apply pw_below_drewN | apply below_drew1 | refine below_set ?_ GE510.out) | exact HB.out)) hb)
        clear HO500
        clear HO506
        clear HO509
        clear HO513
        clear HO516
        clear BK510
        clear HB
        have HO500 := n0_
        have HO506 := n1_
        have HO509 := n2_
        have HO513 := n3_
        have HO516 := n4_
        have HO519 := n5_
        have BK510 := n6_
        have HB := n7_
        clear n0_ n1_ n2_ n3_ n4_ n5_ n6_ n7_
        (try clear hb)
        (try clear hb2)
        (try clear hk)
        (try clear hi)
        (try clear ho0)
        obtain ⟨Ao65, co65, eo65⟩ := Kd.R_slice HO519.out
        (first | subst eo65 | (injection eo65 with f1_ f2_ f3_; have f4_ := f1_.symm; have f5_ := f3_.symm; clear f1_ f2_ f3_; subst f4_; subst f5_))
        refine hK.out _ _ ⟨(blk_cell BK510.out 0).trans rfl, (blk_cell BK510.out 1).trans rfl, (blk_cell BK510.out 2).trans rfl, (blk_cell BK510.out 3).trans rfl, (blk_cell BK510.out 4).trans rfl⟩ (fun hHeld => ?_)
        clear hK K
        refine norm_ (a' := ?_) ?_ ?_
        rotate_left
        · show Act.put _ (some 14) _ = _
          simp only [Act.put, List.setIfInBounds_toArray, List.set_cons_zero, List.set_cons_succ, i64_w, i32_w]
          rfl
        refine one_ (i := 4) (N := some 15) #[true, true, true, true, true, false, false, false, false, false] rfl rfl (one_of HT_.out (by kernel_rfl)) (by decide) (fun K hK => ?_)
        refine goes_ Try.func30 (by kernel_rfl) rfl #[.agg #[.int .i64 t501, .int .i64 t502, .string t503, .slice Ao55 t504.length co55, .slice Ao56 t507.length co56], .slice Ao65 t517.length co65] (by rfl) rfl rfl (by (try simp only [List.map_toArray, List.map_cons, List.map_nil]); first | done | rfl | (simp only [List.length_drop, List.length_take]; rfl)) ?_
        with_reducible refine (field_Check.calls k t501 t502 t503 _ _ t504 _ _ t507 _ _ t517 t520 t521 _ ?side1 ?side2 ?side3 ?side4 ?side5 ?side6 A6.out).mono ?_
        (case side1 => repeat (first | exact (Kd.R_reads' HO506.out).2.2 | (with_reducible refine Kd.C_alloc ?_ _) | (with_reducible refine Kd.C_drewN ?_ _) | (with_reducible refine Kd.C_drew ?_)))
        (case side2 => exact (Kd.R_reads' HO506.out).2.1)
        (case side3 => repeat (first | exact (Kd.N_reads' HO509.out).2.2 | (with_reducible refine Kd.C_alloc ?_ _) | (with_reducible refine Kd.C_drewN ?_ _) | (with_reducible refine Kd.C_drew ?_)))
        (case side4 => exact (Kd.N_reads' HO509.out).2.1)
        (case side5 => repeat (first | exact (Kd.R_reads' HO519.out).2.2 | (with_reducible refine Kd.C_alloc ?_ _) | (with_reducible refine Kd.C_drewN ?_ _) | (with_reducible refine Kd.C_drew ?_)))
        (case side6 => exact (Kd.R_reads' HO519.out).2.1)
        rintro e w66 ⟨rfl, hb⟩
        refine ⟨_, rfl, ?_⟩
        have n0_ := Aside0.mk (Kd.N_below (by (with_reducible repeat (first | apply Kd.N_alloc | apply Kd.N_drewN | apply Kd.N_drew)); exact HO500.out) hb)
        have n1_ := Aside0.mk (Kd.R_below (by (with_reducible repeat (first | apply Kd.R_alloc | apply Kd.R_drewN | apply Kd.R_drew)); exact HO506.out) hb)
        have n2_ := Aside0.mk (Kd.N_below (by (with_reducible repeat (first | apply Kd.N_alloc | apply Kd.N_drewN | apply Kd.N_drew)); exact HO509.out) hb)
        have n3_ := Aside0.mk (Kd.R_below (by (with_reducible repeat (first | apply Kd.R_alloc | apply Kd.R_drewN | apply Kd.R_drew)); exact HO513.out) hb)
        have n4_ := Aside0.mk (Kd.R_below (by (with_reducible repeat (first | apply Kd.R_alloc | apply Kd.R_drewN | apply Kd.R_drew)); exact HO516.out) hb)
        have n5_ := Aside0.mk (Kd.R_below (by (with_reducible repeat (first | apply Kd.R_alloc | apply Kd.R_drewN | apply Kd.R_drew)); exact HO519.out) hb)
        have n6_ := Aside0.mk (blk_below (g := gb510) (o := .cells #[.int .i64 t501, .int .i64 t502, .string t503, .slice Ao55 t504.length co55, .slice Ao56 t507.length co56] 25 (0, 0)) (by (with_reducible repeat (first | refine blk_drewN ?_ _ | refine blk_drew ?_ | refine blk_alloc ?_ _)); exact BK510.out) hb)
        have n7_ := Aside0.mk (below_step (by repeat (first | (with_reducible first | exact HB.out | apply below_alloc | apply pw_below_drewN | apply below_drew1 | refine below_set ?_ GE510.out) | exact HB.out)) hb)
        clear HO500
        clear HO506
        clear HO509
        clear HO513
        clear HO516
        clear HO519
        clear BK510
        clear HB
        have HO500 := n0_
        have HO506 := n1_
        have HO509 := n2_
        have HO513 := n3_
        have HO516 := n4_
        have HO519 := n5_
        have BK510 := n6_
        have HB := n7_
        clear n0_ n1_ n2_ n3_ n4_ n5_ n6_ n7_
        (try clear hb)
        (try clear hb2)
        (try clear hk)
        (try clear hi)
        refine hK.out _ _ ⟨(blk_cell BK510.out 0).trans rfl, (blk_cell BK510.out 1).trans rfl, (blk_cell BK510.out 2).trans rfl, (blk_cell BK510.out 3).trans rfl, (blk_cell BK510.out 4).trans rfl⟩ (fun hHeld => ?_)
        clear hK K
        refine norm_ (a' := ?_) ?_ ?_
        rotate_left
        · show Act.put _ (some 15) _ = _
          simp only [Act.put, List.setIfInBounds_toArray, List.set_cons_zero, List.set_cons_succ, i64_w, i32_w]
          rfl
        refine pure_ (i := 5) (N := some 10) (v := ?_) (a' := ?_) #[true, true, true, true, true, true, false, false, false, false] rfl rfl (any_of HT_.out (by kernel_rfl)) (fun _ _ _ h => h) (Or.inl ⟨by rfl, ?_⟩) ?_ ?_
        rotate_left
        · intro w'
          go_simp
          with_reducible rfl
        rotate_left
        · simp only [Act.put, List.setIfInBounds_toArray, List.set_cons_zero, List.set_cons_succ, i64_w, i32_w]
          rfl
        refine pure_ (i := 6) (N := some 16) (v := ?_) (a' := ?_) #[true, true, true, true, true, true, true, false, false, false] rfl rfl (any_of HT_.out (by kernel_rfl)) (fun _ _ _ h => h) (Or.inl ⟨by rfl, ?_⟩) ?_ ?_
        rotate_left
        · intro w'
          go_simp
          with_reducible rfl
        rotate_left
        · simp only [Act.put, List.setIfInBounds_toArray, List.set_cons_zero, List.set_cons_succ, i64_w, i32_w]
          rfl
        refine pure_ (i := 7) (N := some 17) (v := ?_) (a' := ?_) #[true, true, true, true, true, true, true, true, false, false] rfl rfl (any_of HT_.out (by kernel_rfl)) (fun _ _ _ h => h) (Or.inl ⟨by rfl, ?_⟩) ?_ ?_
        rotate_left
        · intro w'
          go_simp
          with_reducible rfl
        rotate_left
        · simp only [Act.put, List.setIfInBounds_toArray, List.set_cons_zero, List.set_cons_succ, i64_w, i32_w]
          rfl
        refine pure_ (i := 8) (N := some 2) (v := ?_) (a' := ?_) #[true, true, true, true, true, true, true, true, true, false] rfl rfl (any_of HT_.out (by kernel_rfl)) (fun _ _ _ h => h) (Or.inl ⟨by rfl, ?_⟩) ?_ ?_
        rotate_left
        · intro w'
          go_simp
          with_reducible rfl
        rotate_left
        · simp only [Act.put, List.setIfInBounds_toArray, List.set_cons_zero, List.set_cons_succ, i64_w, i32_w]
          rfl
        refine pure_ (i := 9) (N := some 3) (v := ?_) (a' := ?_) #[true, true, true, true, true, true, true, true, true, true] rfl rfl (any_of HT_.out (by kernel_rfl)) (fun _ _ _ h => h) (Or.inl ⟨by rfl, ?_⟩) ?_ ?_
        rotate_left
        · intro w'
          go_simp
          with_reducible rfl
        rotate_left
        · simp only [Act.put, List.setIfInBounds_toArray, List.set_cons_zero, List.set_cons_succ, i64_w, i32_w]
          rfl
        refine done_ (done_of HT_.out (by kernel_rfl)) ?_
        try go_wp2
        have n0_ := Aside0.mk (Kd.N_drew HO500.out)
        have n1_ := Aside0.mk (Kd.R_drew HO506.out)
        have n2_ := Aside0.mk (Kd.N_drew HO509.out)
        have n3_ := Aside0.mk (Kd.R_drew HO513.out)
        have n4_ := Aside0.mk (Kd.R_drew HO516.out)
        have n5_ := Aside0.mk (Kd.R_drew HO519.out)
        have n6_ := Aside0.mk (blk_drew BK510.out)
        have n7_ := Aside0.mk (below_drew1 HB.out)
        clear HO500
        clear HO506
        clear HO509
        clear HO513
        clear HO516
        clear HO519
        clear BK510
        clear HB
        have HO500 := n0_
        have HO506 := n1_
        have HO509 := n2_
        have HO513 := n3_
        have HO516 := n4_
        have HO519 := n5_
        have BK510 := n6_
        have HB := n7_
        clear n0_ n1_ n2_ n3_ n4_ n5_ n6_ n7_
        refine start_ (n := 9) (S := fun w' => w'.cell? ⟨gb510, 0, none⟩ = some (.int .i64 t501) ∧ w'.cell? ⟨gb510, 1, none⟩ = some (.int .i64 t502) ∧ w'.cell? ⟨gb510, 2, none⟩ = some (.string t503) ∧ w'.cell? ⟨gb510, 3, none⟩ = some (.slice Ao55 t504.length co55) ∧ w'.cell? ⟨gb510, 4, none⟩ = some (.slice Ao56 t507.length co56)) (ds := []) #[false, false, false, false, false, false, false, false, false] (by kernel_rfl) rfl rfl ⟨(blk_cell BK510.out 0).trans rfl, (blk_cell BK510.out 1).trans rfl, (blk_cell BK510.out 2).trans rfl, (blk_cell BK510.out 3).trans rfl, (blk_cell BK510.out 4).trans rfl⟩ (fun hHeld => ?_); refine with_tabW sealringlaw29_lives.tab3 sealringlaw29_lives.bits3 (fun HT_ HW_ => ?_)
        generalize w66.drew = w67 at HO500 HO506 HO509 HO513 HO516 HO519 BK510 HB hHeld ⊢
        refine take_ (i := 0) (N := some 19) (v := ?_) (a' := ?_) #[true, false, false, false, false, false, false, false, false] rfl rfl (take_ofW HT_.out HW_.out (by kernel_rfl)) (fun _ _ _ h => h) (Or.inl ⟨by rfl, ?_⟩) hHeld ?_ ?_
        rotate_left
        · rintro w' ⟨s0, s1, s2, s3, s4⟩
          go_simp
          with_reducible rfl
        rotate_left
        · simp only [Act.put, List.setIfInBounds_toArray, List.set_cons_zero, List.set_cons_succ, i64_w, i32_w]
          rfl
        refine one_ (i := 1) (N := some 20) #[true, true, false, false, false, false, false, false, false] rfl rfl (one_of HT_.out (by kernel_rfl)) (by decide) (fun K hK => ?_)
        refine Kd.R_lit_step Kd.string _ 9 ?hg (N := 20) ?hd (xs := ([(⟨#[98]⟩ : ByteArray)] : List ByteArray)) (inner := [.string (⟨#[98]⟩ : ByteArray)]) (ok := fun _ => True) (okp := fun _ => True) ?hr ?hp (fun _ hk => hk) trivial (Below.refl _ _) (Nat.le_refl _) (by simp) ?_; (case hd => rfl); (case hg => rfl); (case hr => first | (go_simp; done) | (go_simp; rfl)); (case hp => exact (Reps.one (show Kd.M Kd.string _ _ _ (⟨#[98]⟩ : ByteArray) [.string (⟨#[98]⟩ : ByteArray)] from rfl) (Reps.none _ _)))
        intro v523 w68 ho69 hb hg_ hnew_
        clear hg_ hnew_
        (first | rw [← Ny522.out] at ho69 | (simp only [Int.reduceToNat] at ho69; rw [← Ny522.out] at ho69))
        have n0_ := Aside0.mk (Kd.N_elder' (by (with_reducible repeat (first | apply Kd.N_alloc | apply Kd.N_drewN | apply Kd.N_drew)); exact HO500.out) (Kd.R_base ho69) hb)
        have n1_ := Aside0.mk (Kd.R_elder' (by (with_reducible repeat (first | apply Kd.R_alloc | apply Kd.R_drewN | apply Kd.R_drew)); exact HO506.out) (Kd.R_base ho69) hb)
        have n2_ := Aside0.mk (Kd.N_elder' (by (with_reducible repeat (first | apply Kd.N_alloc | apply Kd.N_drewN | apply Kd.N_drew)); exact HO509.out) (Kd.R_base ho69) hb)
        have n3_ := Aside0.mk (Kd.R_elder' (by (with_reducible repeat (first | apply Kd.R_alloc | apply Kd.R_drewN | apply Kd.R_drew)); exact HO513.out) (Kd.R_base ho69) hb)
        have n4_ := Aside0.mk (Kd.R_below (by (with_reducible repeat (first | apply Kd.R_alloc | apply Kd.R_drewN | apply Kd.R_drew)); exact HO516.out) hb)
        have n5_ := Aside0.mk (Kd.R_below (by (with_reducible repeat (first | apply Kd.R_alloc | apply Kd.R_drewN | apply Kd.R_drew)); exact HO519.out) hb)
        have n6_ := Aside0.mk (Kd.R_lower (Kd.R_new' (Kd.R_new' ho69 (Kd.R_lt (by (with_reducible repeat (first | apply Kd.R_alloc | apply Kd.R_drewN | apply Kd.R_drew)); exact HO506.out))) (Kd.R_lt (by (with_reducible repeat (first | apply Kd.R_alloc | apply Kd.R_drewN | apply Kd.R_drew)); exact HO513.out))) (below_size (by repeat (first | (with_reducible first | exact HB.out | apply below_alloc | apply pw_below_drewN | apply below_drew1 | refine below_set ?_ GE510.out) | exact HB.out))))
        have n7_ := Aside0.mk (blk_below (g := gb510) (o := .cells #[.int .i64 t501, .int .i64 t502, .string t503, .slice Ao55 t504.length co55, .slice Ao56 t507.length co56] 25 (0, 0)) (by (with_reducible repeat (first | refine blk_drewN ?_ _ | refine blk_drew ?_ | refine blk_alloc ?_ _)); exact BK510.out) hb)
        have n8_ := Aside0.mk (below_step (by repeat (first | (with_reducible first | exact HB.out | apply below_alloc | apply pw_below_drewN | apply below_drew1 | refine below_set ?_ GE510.out) | exact HB.out)) hb)
        clear HO500
        clear HO506
        clear HO509
        clear HO513
        clear HO516
        clear HO519
        clear BK510
        clear HB
        have HO500 := n0_
        have HO506 := n1_
        have HO509 := n2_
        have HO513 := n3_
        have HO516 := n4_
        have HO519 := n5_
        have HO524 := n6_
        have BK510 := n7_
        have HB := n8_
        clear n0_ n1_ n2_ n3_ n4_ n5_ n6_ n7_ n8_
        clear hb ho69
        obtain ⟨Ao70, co70, eo70⟩ := Kd.R_slice HO524.out
        (first | subst eo70 | (injection eo70 with f1_ f2_ f3_; have f4_ := f1_.symm; have f5_ := f3_.symm; clear f1_ f2_ f3_; subst f4_; subst f5_))
        refine hK.out _ _ ⟨(blk_cell BK510.out 0).trans rfl, (blk_cell BK510.out 1).trans rfl, (blk_cell BK510.out 2).trans rfl, (blk_cell BK510.out 3).trans rfl, (blk_cell BK510.out 4).trans rfl⟩ (fun hHeld => ?_)
        clear hK K
        refine norm_ (a' := ?_) ?_ ?_
        rotate_left
        · show Act.put _ (some 20) _ = _
          simp only [Act.put, List.setIfInBounds_toArray, List.set_cons_zero, List.set_cons_succ, i64_w, i32_w]
          rfl
        refine one_ (i := 2) (N := some 21) #[true, true, true, false, false, false, false, false, false] rfl rfl (one_of HT_.out (by kernel_rfl)) (by decide) (fun K hK => ?_)
        refine goes_ Try.func26 (by kernel_rfl) rfl #[.int .i64 0, .slice Ao70 y522.length co70] (by rfl) rfl rfl (by (try simp only [List.map_toArray, List.map_cons, List.map_nil]); first | done | rfl | (simp only [List.length_drop, List.length_take]; rfl)) ?_
        with_reducible refine (field_Must.calls k 0 _ _ y522 t525 _ ?side1 ?side2 A7.out).mono ?_
        (case side1 => repeat (first | exact (Kd.R_reads' HO524.out).2.2 | (with_reducible refine Kd.C_alloc ?_ _) | (with_reducible refine Kd.C_drewN ?_ _) | (with_reducible refine Kd.C_drew ?_)))
        (case side2 => exact (Kd.R_reads' HO524.out).2.1)
        rintro e w71 ⟨v526, rfl, ho0, hb⟩
        refine ⟨_, rfl, ?_⟩
        have n0_ := Aside0.mk (Kd.N_elder' (by (with_reducible repeat (first | apply Kd.N_alloc | apply Kd.N_drewN | apply Kd.N_drew)); exact HO500.out) (Kd.R_base ho0) hb)
        have n1_ := Aside0.mk (Kd.R_below (by (with_reducible repeat (first | apply Kd.R_alloc | apply Kd.R_drewN | apply Kd.R_drew)); exact HO506.out) hb)
        have n2_ := Aside0.mk (Kd.N_elder' (by (with_reducible repeat (first | apply Kd.N_alloc | apply Kd.N_drewN | apply Kd.N_drew)); exact HO509.out) (Kd.R_base ho0) hb)
        have n3_ := Aside0.mk (Kd.R_below (by (with_reducible repeat (first | apply Kd.R_alloc | apply Kd.R_drewN | apply Kd.R_drew)); exact HO513.out) hb)
        have n4_ := Aside0.mk (Kd.R_elder' (by (with_reducible repeat (first | apply Kd.R_alloc | apply Kd.R_drewN | apply Kd.R_drew)); exact HO516.out) (Kd.R_base ho0) hb)
        have n5_ := Aside0.mk (Kd.R_elder' (by (with_reducible repeat (first | apply Kd.R_alloc | apply Kd.R_drewN | apply Kd.R_drew)); exact HO519.out) (Kd.R_base ho0) hb)
        have n6_ := Aside0.mk (Kd.R_below (by (with_reducible repeat (first | apply Kd.R_alloc | apply Kd.R_drewN | apply Kd.R_drew)); exact HO524.out) hb)
        have n7_ := Aside0.mk (Kd.R_lower (Kd.R_new' (Kd.R_new' ho0 (Kd.R_lt (by (with_reducible repeat (first | apply Kd.R_alloc | apply Kd.R_drewN | apply Kd.R_drew)); exact HO516.out))) (Kd.R_lt (by (with_reducible repeat (first | apply Kd.R_alloc | apply Kd.R_drewN | apply Kd.R_drew)); exact HO519.out))) (below_size (by repeat (first | (with_reducible first | exact HB.out | apply below_alloc | apply pw_below_drewN | apply below_drew1 | refine below_set ?_ GE510.out) | exact HB.out))))
        have n8_ := Aside0.mk (blk_below (g := gb510) (o := .cells #[.int .i64 t501, .int .i64 t502, .string t503, .slice Ao55 t504.length co55, .slice Ao56 t507.length co56] 25 (0, 0)) (by (with_reducible repeat (first | refine blk_drewN ?_ _ | refine blk_drew ?_ | refine blk_alloc ?_ _)); exact BK510.out) hb)
        have n9_ := Aside0.mk (below_step (by repeat (first | (with_reducible first | exact HB.out | apply below_alloc | apply pw_below_drewN | apply below_drew1 | refine below_set ?_ GE510.out) | exact HB.out)) hb)
        clear HO500
        clear HO506
        clear HO509
        clear HO513
        clear HO516
        clear HO519
        clear HO524
        clear BK510
        clear HB
        have HO500 := n0_
        have HO506 := n1_
        have HO509 := n2_
        have HO513 := n3_
        have HO516 := n4_
        have HO519 := n5_
        have HO524 := n6_
        have HO527 := n7_
        have BK510 := n8_
        have HB := n9_
        clear n0_ n1_ n2_ n3_ n4_ n5_ n6_ n7_ n8_ n9_
        (try clear hb)
        (try clear hb2)
        (try clear hk)
        (try clear hi)
        (try clear ho0)
        obtain ⟨Ao72, co72, eo72⟩ := Kd.R_slice HO527.out
        (first | subst eo72 | (injection eo72 with f1_ f2_ f3_; have f4_ := f1_.symm; have f5_ := f3_.symm; clear f1_ f2_ f3_; subst f4_; subst f5_))
        refine hK.out _ _ ⟨(blk_cell BK510.out 0).trans rfl, (blk_cell BK510.out 1).trans rfl, (blk_cell BK510.out 2).trans rfl, (blk_cell BK510.out 3).trans rfl, (blk_cell BK510.out 4).trans rfl⟩ (fun hHeld => ?_)
        clear hK K
        refine norm_ (a' := ?_) ?_ ?_
        rotate_left
        · show Act.put _ (some 21) _ = _
          simp only [Act.put, List.setIfInBounds_toArray, List.set_cons_zero, List.set_cons_succ, i64_w, i32_w]
          rfl
        refine one_ (i := 3) (N := some 22) #[true, true, true, true, false, false, false, false, false] rfl rfl (one_of HT_.out (by kernel_rfl)) (by decide) (fun K hK => ?_)
        refine goes_ Try.func30 (by kernel_rfl) rfl #[.agg #[.int .i64 t501, .int .i64 t502, .string t503, .slice Ao55 t504.length co55, .slice Ao56 t507.length co56], .slice Ao72 t525.length co72] (by rfl) rfl rfl (by (try simp only [List.map_toArray, List.map_cons, List.map_nil]); first | done | rfl | (simp only [List.length_drop, List.length_take]; rfl)) ?_
        with_reducible refine (field_Check.calls k t501 t502 t503 _ _ t504 _ _ t507 _ _ t525 t528 t529 _ ?side1 ?side2 ?side3 ?side4 ?side5 ?side6 A8.out).mono ?_
        (case side1 => repeat (first | exact (Kd.R_reads' HO506.out).2.2 | (with_reducible refine Kd.C_alloc ?_ _) | (with_reducible refine Kd.C_drewN ?_ _) | (with_reducible refine Kd.C_drew ?_)))
        (case side2 => exact (Kd.R_reads' HO506.out).2.1)
        (case side3 => repeat (first | exact (Kd.N_reads' HO509.out).2.2 | (with_reducible refine Kd.C_alloc ?_ _) | (with_reducible refine Kd.C_drewN ?_ _) | (with_reducible refine Kd.C_drew ?_)))
        (case side4 => exact (Kd.N_reads' HO509.out).2.1)
        (case side5 => repeat (first | exact (Kd.R_reads' HO527.out).2.2 | (with_reducible refine Kd.C_alloc ?_ _) | (with_reducible refine Kd.C_drewN ?_ _) | (with_reducible refine Kd.C_drew ?_)))
        (case side6 => exact (Kd.R_reads' HO527.out).2.1)
        rintro e w73 ⟨rfl, hb⟩
        refine ⟨_, rfl, ?_⟩
        have n0_ := Aside0.mk (Kd.N_below (by (with_reducible repeat (first | apply Kd.N_alloc | apply Kd.N_drewN | apply Kd.N_drew)); exact HO500.out) hb)
        have n1_ := Aside0.mk (Kd.R_below (by (with_reducible repeat (first | apply Kd.R_alloc | apply Kd.R_drewN | apply Kd.R_drew)); exact HO506.out) hb)
        have n2_ := Aside0.mk (Kd.N_below (by (with_reducible repeat (first | apply Kd.N_alloc | apply Kd.N_drewN | apply Kd.N_drew)); exact HO509.out) hb)
        have n3_ := Aside0.mk (Kd.R_below (by (with_reducible repeat (first | apply Kd.R_alloc | apply Kd.R_drewN | apply Kd.R_drew)); exact HO513.out) hb)
        have n4_ := Aside0.mk (Kd.R_below (by (with_reducible repeat (first | apply Kd.R_alloc | apply Kd.R_drewN | apply Kd.R_drew)); exact HO516.out) hb)
        have n5_ := Aside0.mk (Kd.R_below (by (with_reducible repeat (first | apply Kd.R_alloc | apply Kd.R_drewN | apply Kd.R_drew)); exact HO519.out) hb)
        have n6_ := Aside0.mk (Kd.R_below (by (with_reducible repeat (first | apply Kd.R_alloc | apply Kd.R_drewN | apply Kd.R_drew)); exact HO524.out) hb)
        have n7_ := Aside0.mk (Kd.R_below (by (with_reducible repeat (first | apply Kd.R_alloc | apply Kd.R_drewN | apply Kd.R_drew)); exact HO527.out) hb)
        have n8_ := Aside0.mk (blk_below (g := gb510) (o := .cells #[.int .i64 t501, .int .i64 t502, .string t503, .slice Ao55 t504.length co55, .slice Ao56 t507.length co56] 25 (0, 0)) (by (with_reducible repeat (first | refine blk_drewN ?_ _ | refine blk_drew ?_ | refine blk_alloc ?_ _)); exact BK510.out) hb)
        have n9_ := Aside0.mk (below_step (by repeat (first | (with_reducible first | exact HB.out | apply below_alloc | apply pw_below_drewN | apply below_drew1 | refine below_set ?_ GE510.out) | exact HB.out)) hb)
        clear HO500
        clear HO506
        clear HO509
        clear HO513
        clear HO516
        clear HO519
        clear HO524
        clear HO527
        clear BK510
        clear HB
        have HO500 := n0_
        have HO506 := n1_
        have HO509 := n2_
        have HO513 := n3_
        have HO516 := n4_
        have HO519 := n5_
        have HO524 := n6_
        have HO527 := n7_
        have BK510 := n8_
        have HB := n9_
        clear n0_ n1_ n2_ n3_ n4_ n5_ n6_ n7_ n8_ n9_
        (try clear hb)
        (try clear hb2)
        (try clear hk)
        (try clear hi)
        refine hK.out _ _ ⟨(blk_cell BK510.out 0).trans rfl, (blk_cell BK510.out 1).trans rfl, (blk_cell BK510.out 2).trans rfl, (blk_cell BK510.out 3).trans rfl, (blk_cell BK510.out 4).trans rfl⟩ (fun hHeld => ?_)
        clear hK K
        refine norm_ (a' := ?_) ?_ ?_
        rotate_left
        · show Act.put _ (some 22) _ = _
          simp only [Act.put, List.setIfInBounds_toArray, List.set_cons_zero, List.set_cons_succ, i64_w, i32_w]
          rfl
        refine pure_ (i := 4) (N := some 18) (v := ?_) (a' := ?_) #[true, true, true, true, true, false, false, false, false] rfl rfl (any_of HT_.out (by kernel_rfl)) (fun _ _ _ h => h) (Or.inl ⟨by rfl, ?_⟩) ?_ ?_
        rotate_left
        · intro w'
          go_simp
          with_reducible rfl
        rotate_left
        · simp only [Act.put, List.setIfInBounds_toArray, List.set_cons_zero, List.set_cons_succ, i64_w, i32_w]
          rfl
        refine pure_ (i := 5) (N := some 23) (v := ?_) (a' := ?_) #[true, true, true, true, true, true, false, false, false] rfl rfl (any_of HT_.out (by kernel_rfl)) (fun _ _ _ h => h) (Or.inl ⟨by rfl, ?_⟩) ?_ ?_
        rotate_left
        · intro w'
          go_simp
          with_reducible rfl
        rotate_left
        · simp only [Act.put, List.setIfInBounds_toArray, List.set_cons_zero, List.set_cons_succ, i64_w, i32_w]
          rfl
        refine pure_ (i := 6) (N := some 24) (v := ?_) (a' := ?_) #[true, true, true, true, true, true, true, false, false] rfl rfl (any_of HT_.out (by kernel_rfl)) (fun _ _ _ h => h) (Or.inl ⟨by rfl, ?_⟩) ?_ ?_
        rotate_left
        · intro w'
          go_simp
          with_reducible rfl
        rotate_left
        · simp only [Act.put, List.setIfInBounds_toArray, List.set_cons_zero, List.set_cons_succ, i64_w, i32_w]
          rfl
        refine pure_ (i := 7) (N := some 4) (v := ?_) (a' := ?_) #[true, true, true, true, true, true, true, true, false] rfl rfl (any_of HT_.out (by kernel_rfl)) (fun _ _ _ h => h) (Or.inl ⟨by rfl, ?_⟩) ?_ ?_
        rotate_left
        · intro w'
          go_simp
          with_reducible rfl
        rotate_left
        · simp only [Act.put, List.setIfInBounds_toArray, List.set_cons_zero, List.set_cons_succ, i64_w, i32_w]
          rfl
        refine pure_ (i := 8) (N := some 5) (v := ?_) (a' := ?_) #[true, true, true, true, true, true, true, true, true] rfl rfl (any_of HT_.out (by kernel_rfl)) (fun _ _ _ h => h) (Or.inl ⟨by rfl, ?_⟩) ?_ ?_
        rotate_left
        · intro w'
          go_simp
          with_reducible rfl
        rotate_left
        · simp only [Act.put, List.setIfInBounds_toArray, List.set_cons_zero, List.set_cons_succ, i64_w, i32_w]
          rfl
        refine done_ (done_of HT_.out (by kernel_rfl)) ?_
        try go_wp2
        go_ret
        exact ⟨by first | rfl | (simp [errW_none, errW_some] <;> rfl) | (simp [*, errW_none, errW_some] <;> rfl), by repeat (first | (with_reducible first | exact HB.out | apply below_alloc | apply pw_below_drewN | apply below_drew1 | refine below_set ?_ GE510.out) | exact HB.out)⟩
    · rw [if_neg c10] at H
      have c10b0 : (t521 == 4) = false := beq_eq_false_iff_ne.mpr c10
      have c10b1 : (t521 != 4) = true := bne_iff_ne.mpr c10
      obtain rfl := Option.some.inj H
      have hu29 := Try.underlying29
      go_enter Try.func25, Try.ntmps25
      try go_wp2_with (first | ((with_reducible refine gate_callee (f := 23) rfl ?_); refine goesL_ (some 6) rfl rfl Try.func23 (by kernel_rfl) rfl #[.string (⟨#[97]⟩ : ByteArray)] rfl (by (try simp only [List.map_toArray, List.map_cons, List.map_nil]); first | done | rfl | (simp only [List.length_drop, List.length_take]; rfl)) ?_; (with_reducible refine (tree_Text.calls (⟨#[97]⟩ : ByteArray) t480 t481 t482 t483 t486 _ A1.out).mono ?_); rintro e w74 ⟨v484, v487, rfl, ho0, ho1, hb⟩; refine ⟨_, rfl, ?_⟩; have n0_ := Aside0.mk (Kd.R_lower ho0 (below_size (by repeat (first | (with_reducible first | exact HB.out | apply below_alloc | apply pw_below_drewN | apply below_drew1) | exact HB.out)))); have n1_ := Aside0.mk (Kd.N_lower (Kd.N_mono (ok' := fun k_ => some k_ ≠ (v484 : Value).ownBlock) (Kd.R_N (Kd.R_bound ho1)) (fun k_ hk_ => hk_.1)) (below_size (by repeat (first | (with_reducible first | exact HB.out | apply below_alloc | apply pw_below_drewN | apply below_drew1) | exact HB.out)))); have n2_ := Aside0.mk (below_step (by repeat (first | (with_reducible first | exact HB.out | apply below_alloc | apply pw_below_drewN | apply below_drew1) | exact HB.out)) hb); clear HB; have HO485 := n0_; have HO488 := n1_; have HB := n2_; clear n0_ n1_ n2_; (try clear hb); (try clear hb2); (try clear hk); (try clear hi); (try clear ho0); (try clear ho1)) | ((with_reducible refine gate_callee (f := 23) rfl ?_); refine goesL_ (some 7) rfl rfl Try.func23 (by kernel_rfl) rfl #[.string (⟨#[120, 121]⟩ : ByteArray)] rfl (by (try simp only [List.map_toArray, List.map_cons, List.map_nil]); first | done | rfl | (simp only [List.length_drop, List.length_take]; rfl)) ?_; (with_reducible refine (tree_Text.calls (⟨#[120, 121]⟩ : ByteArray) t489 t490 t491 t492 t495 _ A2.out).mono ?_); rintro e w75 ⟨v493, v496, rfl, ho0, ho1, hb⟩; refine ⟨_, rfl, ?_⟩; have n0_ := Aside0.mk (Kd.R_elder' (by (with_reducible repeat (first | apply Kd.R_alloc | apply Kd.R_drewN | apply Kd.R_drew)); exact HO485.out) (Kd.R_base ho0) hb); have n1_ := Aside0.mk (Kd.N_mono (Kd.N_told (Kd.N_told (Kd.N_old (by (with_reducible repeat (first | apply Kd.N_alloc | apply Kd.N_drewN | apply Kd.N_drew)); exact HO488.out) hb) (Kd.R_base ho0)) (by first | exact Kd.N_base ho1 | exact Kd.N_base (Kd.R_N (Kd.R_bound ho1)) | exact Kd.N_base (Kd.R_N ho1))) (fun _ h_ => h_.1)); have n2_ := Aside0.mk (Kd.R_lower (Kd.R_new' ho0 (Kd.R_lt (by (with_reducible repeat (first | apply Kd.R_alloc | apply Kd.R_drewN | apply Kd.R_drew)); exact HO485.out))) (below_size (by repeat (first | (with_reducible first | exact HB.out | apply below_alloc | apply pw_below_drewN | apply below_drew1) | exact HB.out)))); have n3_ := Aside0.mk (Kd.N_lower (Kd.N_mono (ok' := fun k_ => some k_ ≠ (v493 : Value).ownBlock ∧ some k_ ≠ (v484 : Value).ownBlock ∧ some k_ ≠ (v487 : Value).ownBlock) (Kd.R_N (Kd.R_bound ho1)) (fun k_ hk_ => ⟨hk_.1, (Kd.fresh' (Kd.R_lt (by (with_reducible repeat (first | apply Kd.R_alloc | apply Kd.R_drewN | apply Kd.R_drew)); exact HO485.out)) k_ hk_.2.1), (Kd.fresh' (Kd.N_lt (by (with_reducible repeat (first | apply Kd.N_alloc | apply Kd.N_drewN | apply Kd.N_drew)); exact HO488.out)) k_ hk_.2.1)⟩)) (below_size (by repeat (first | (with_reducible first | exact HB.out | apply below_alloc | apply pw_below_drewN | apply below_drew1) | exact HB.out)))); have n4_ := Aside0.mk (below_step (by repeat (first | (with_reducible first | exact HB.out | apply below_alloc | apply pw_below_drewN | apply below_drew1) | exact HB.out)) hb); clear HO485; clear HO488; clear HB; have HO485 := n0_; have HO488 := n1_; have HO494 := n2_; have HO497 := n3_; have HB := n4_; clear n0_ n1_ n2_ n3_ n4_; (try clear hb); (try clear hb2); (try clear hk); (try clear hi); (try clear ho0); (try clear ho1); obtain ⟨Ao76, co76, eo76⟩ := Kd.R_slice HO485.out; subst eo76; obtain ⟨Ao77, co77, eo77⟩ := Kd.N_slice HO488.out; subst eo77; obtain ⟨Ao78, co78, eo78⟩ := Kd.R_slice HO494.out; subst eo78; obtain ⟨Ao79, co79, eo79⟩ := Kd.N_slice HO497.out; subst eo79) | ((with_reducible refine gate_dst (N := 8) rfl ?_); refine Kd.N_lit k25 _ 25 ?hg (N' := 8) ?hd (xs := ([(⟨t480, t481, t482, t483, t486⟩ : S25), (⟨t489, t490, t491, t492, t495⟩ : S25)] : List (S25))) (inner := [.int .i64 t480, .int .i64 t481, .string t482, .slice Ao76 t483.length co76, .slice Ao77 t486.length co77, .int .i64 t489, .int .i64 t490, .string t491, .slice Ao78 t492.length co78, .slice Ao79 t495.length co79]) (ok := (fun _ => True)) (okp := (fun _ => True)) ?hr ?hp (fun _ hk => hk) ((show ∀ k_, w75.heap.size ≤ k_ → (fun _ => True) k_ from fun k_ hk => trivial) _ (Nat.le_refl _)) (Below.refl _ _) (Nat.le_refl _) (by simp) ?_; (case hd => rfl); (case hg => rfl); (case hr => first | (go_simp; done) | (go_simp; rfl)); (case hp => exact (Reps.c5 (show Kd.FK k25 _ _ (⟨t480, t481, t482, t483, t486⟩ : S25) [.int .i64 t480, .int .i64 t481, .string t482, .slice Ao76 t483.length co76, .slice Ao77 t486.length co77] from (k25_mkF _ _ (⟨t480, t481, t482, t483, t486⟩ : S25) (Kd.R_reads' (Kd.R_mono (ok' := (fun _ => True)) (HO485.out) (fun k_ hk => trivial))).2.1 (Kd.R_F (Kd.R_mono (ok' := (fun _ => True)) (HO485.out) (fun k_ hk => trivial))) (Kd.N_reads' (Kd.N_mono (ok' := (fun _ => True)) (HO488.out) (fun k_ hk => trivial))).2.1 (Kd.N_F (Kd.N_mono (ok' := (fun _ => True)) (HO488.out) (fun k_ hk => trivial))))) (Reps.c5 (show Kd.FK k25 _ _ (⟨t489, t490, t491, t492, t495⟩ : S25) [.int .i64 t489, .int .i64 t490, .string t491, .slice Ao78 t492.length co78, .slice Ao79 t495.length co79] from (k25_mkF _ _ (⟨t489, t490, t491, t492, t495⟩ : S25) (Kd.R_reads' (Kd.R_mono (ok' := (fun _ => True)) (HO494.out) (fun k_ hk => trivial))).2.1 (Kd.R_F (Kd.R_mono (ok' := (fun _ => True)) (HO494.out) (fun k_ hk => trivial))) (Kd.N_reads' (Kd.N_mono (ok' := (fun _ => True)) (HO497.out) (fun k_ hk => trivial))).2.1 (Kd.N_F (Kd.N_mono (ok' := (fun _ => True)) (HO497.out) (fun k_ hk => trivial))))) (Reps.none _ _)))); intro v499 w80 ho81 hb hg_ hnew_; clear hg_ hnew_; (first | rw [← Ny498.out] at ho81 | (simp only [Int.reduceToNat] at ho81; rw [← Ny498.out] at ho81)); have n0_ := Aside0.mk (Kd.N_lower ho81 (below_size (by repeat (first | (with_reducible first | exact HB.out | apply below_alloc | apply pw_below_drewN | apply below_drew1) | exact HB.out)))); have n1_ := Aside0.mk (below_step (by repeat (first | (with_reducible first | exact HB.out | apply below_alloc | apply pw_below_drewN | apply below_drew1) | exact HB.out)) hb); clear HB; clear HO485; clear HO488; clear HO494; clear HO497; have HO500 := n0_; have HB := n1_; clear n0_ n1_; clear hb ho81; obtain ⟨Ao82, co82, eo82⟩ := Kd.N_slice HO500.out; subst eo82) | ((with_reducible refine gate_callee (f := 22) rfl ?_); refine goesL_ (some 9) rfl rfl Try.func22 (by kernel_rfl) rfl #[.slice Ao82 y498.length co82] rfl (by (try simp only [List.map_toArray, List.map_cons, List.map_nil]); first | done | rfl | (simp only [List.length_drop, List.length_take]; rfl)) ?_; (with_reducible refine (tree_Map.calls k (fun k_ => True) _ _ y498 t501 t502 t503 t504 t507 _ ?side1 A3.out).mono ?_); (case side1 => exact Kd.N_V (HO500.out)); rintro e w83 ⟨v505, v508, rfl, ho0, ho1, hb⟩; refine ⟨_, rfl, ?_⟩; have n0_ := Aside0.mk (Kd.N_mono (Kd.N_told (Kd.N_told (Kd.N_old (by (with_reducible repeat (first | apply Kd.N_alloc | apply Kd.N_drewN | apply Kd.N_drew)); exact HO500.out) hb) (Kd.R_base ho0)) (by first | exact Kd.N_base ho1 | exact Kd.N_base (Kd.R_N (Kd.R_bound ho1)) | exact Kd.N_base (Kd.R_N ho1))) (fun _ h_ => h_.1)); have n1_ := Aside0.mk (Kd.R_lower (Kd.R_mono (ok' := fun k_ => True) ho0 (fun _ hk_ => trivial)) (below_size (by repeat (first | (with_reducible first | exact HB.out | apply below_alloc | apply pw_below_drewN | apply below_drew1) | exact HB.out)))); have n2_ := Aside0.mk (Kd.N_lower (Kd.N_mono (ok' := fun k_ => some k_ ≠ (v505 : Value).ownBlock) ho1 (fun k_ hk_ => hk_.2)) (below_size (by repeat (first | (with_reducible first | exact HB.out | apply below_alloc | apply pw_below_drewN | apply below_drew1) | exact HB.out)))); have n3_ := Aside0.mk (below_step (by repeat (first | (with_reducible first | exact HB.out | apply below_alloc | apply pw_below_drewN | apply below_drew1) | exact HB.out)) hb); clear HO500; clear HB; have HO500 := n0_; have HO506 := n1_; have HO509 := n2_; have HB := n3_; clear n0_ n1_ n2_ n3_; (try clear hb); (try clear hb2); (try clear hk); (try clear hi); (try clear ho0); (try clear ho1)) | ((with_reducible refine gate_dst (N := 1) rfl ?_); refine box_event ?hg (N := 1) ?hd (cs := #[.int .i64 0, .int .i64 0, .string (⟨#[]⟩ : ByteArray), .slice none 0 0, .slice none 0 0]) (t := 25) ?hr ?_; (case hd => rfl); (case hg => rfl); (case hr => first | (go_simp; done) | (go_simp; rfl)); intro gb510 hg w84 hbox hb; have n0_ := Aside0.mk (Kd.N_below (Kd.N_elderB (by (with_reducible repeat (first | apply Kd.N_alloc | apply Kd.N_drewN | apply Kd.N_drew)); exact HO500.out) gb510 (Nat.le_of_eq hg.symm)) hb); have n1_ := Aside0.mk (Kd.R_below (by (with_reducible repeat (first | apply Kd.R_alloc | apply Kd.R_drewN | apply Kd.R_drew)); exact HO506.out) hb); have n2_ := Aside0.mk (Kd.N_below (Kd.N_elderB (by (with_reducible repeat (first | apply Kd.N_alloc | apply Kd.N_drewN | apply Kd.N_drew)); exact HO509.out) gb510 (Nat.le_of_eq hg.symm)) hb); have n3_ := Aside0.mk (below_step (by repeat (first | (with_reducible first | exact HB.out | apply below_alloc | apply pw_below_drewN | apply below_drew1) | exact HB.out)) hb); have n4_ := Aside0.mk (hbox); have n5_ := Aside0.mk ((by rw [hg]; exact (below_size (by repeat (first | (with_reducible first | exact HB.out | apply below_alloc | apply pw_below_drewN | apply below_drew1) | exact HB.out))) : w.heap.size ≤ gb510)); have n6_ := Aside0.mk ((by rw [hg]; exact (below_size (by repeat (first | (with_reducible first | exact HB.out | apply below_alloc | apply pw_below_drewN | apply below_drew1) | exact HB.out))) : w.heap.size ≤ gb510)); clear HO500; clear HO506; clear HO509; clear HB; have HO500 := n0_; have HO506 := n1_; have HO509 := n2_; have HB := n3_; have BK510 := n4_; have GW510 := n5_; have GE510 := n6_; clear n0_ n1_ n2_ n3_ n4_ n5_ n6_; clear hb hbox hg; have hcz85_0 : w84.cell? ⟨gb510, 0, none⟩ = some (.int .i64 0) := (blk_cell BK510.out 0).trans rfl; have hcz85_1 : w84.cell? ⟨gb510, 1, none⟩ = some (.int .i64 0) := (blk_cell BK510.out 1).trans rfl; have hcz85_2 : w84.cell? ⟨gb510, 2, none⟩ = some (.string (⟨#[]⟩ : ByteArray)) := (blk_cell BK510.out 2).trans rfl; have hcz85_3 : w84.cell? ⟨gb510, 3, none⟩ = some (.slice none 0 0) := (blk_cell BK510.out 3).trans rfl; have hcz85_4 : w84.cell? ⟨gb510, 4, none⟩ = some (.slice none 0 0) := (blk_cell BK510.out 4).trans rfl; have hfz85_0 := blk_frozen BK510.out 0; have hfz85_1 := blk_frozen BK510.out 1; have hfz85_2 := blk_frozen BK510.out 2; have hfz85_3 := blk_frozen BK510.out 3; have hfz85_4 := blk_frozen BK510.out 4; obtain ⟨Ao86, co86, eo86⟩ := Kd.R_slice HO506.out; subst eo86; obtain ⟨Ao87, co87, eo87⟩ := Kd.N_slice HO509.out; subst eo87))
      have n0_ : Aside0 (Kd.N k25 25 (((((w84.setCell ⟨gb510, 0, none⟩ (.int .i64 t501)).setCell ⟨gb510, 1, none⟩ (.int .i64 t502)).setCell ⟨gb510, 2, none⟩ (.string t503)).setCell ⟨gb510, 3, none⟩ (.slice Ao86 t504.length co86)).setCell ⟨gb510, 4, none⟩ (.slice Ao87 t507.length co87)) w.heap.size (fun k_ => some k_ ≠ (.slice Ao86 t504.length co86 : Value).ownBlock ∧ some k_ ≠ (.slice Ao87 t507.length co87 : Value).ownBlock ∧ k_ ≠ gb510) (.slice Ao82 y498.length co82) y498) := ⟨by (with_reducible repeat (first | apply Kd.N_alloc | apply Kd.N_drewN | apply Kd.N_drew)); exact Kd.N_mono (Kd.N_far (p := ⟨gb510, 4, none⟩) (Kd.N_far (p := ⟨gb510, 3, none⟩) (Kd.N_far (p := ⟨gb510, 2, none⟩) (Kd.N_far (p := ⟨gb510, 1, none⟩) (Kd.N_far (p := ⟨gb510, 0, none⟩) (Kd.N_mono HO500.out (fun k_ hk => (⟨hk, hk.2⟩ : _ ∧ k_ ≠ gb510))) (fun _ hk => hk.2) (.int .i64 t501)) (fun _ hk => hk.2) (.int .i64 t502)) (fun _ hk => hk.2) (.string t503)) (fun _ hk => hk.2) (.slice Ao86 t504.length co86)) (fun _ hk => hk.2) (.slice Ao87 t507.length co87)) (fun _ hk => ⟨hk.1.1.1.2, ⟨hk.1.1.2, hk.1.2⟩⟩)⟩
      have n1_ : Aside0 (Kd.R Kd.string 9 (((((w84.setCell ⟨gb510, 0, none⟩ (.int .i64 t501)).setCell ⟨gb510, 1, none⟩ (.int .i64 t502)).setCell ⟨gb510, 2, none⟩ (.string t503)).setCell ⟨gb510, 3, none⟩ (.slice Ao86 t504.length co86)).setCell ⟨gb510, 4, none⟩ (.slice Ao87 t507.length co87)) w.heap.size (fun _ => True) (.slice Ao86 t504.length co86) t504) := ⟨by (with_reducible repeat (first | apply Kd.R_alloc | apply Kd.R_drewN | apply Kd.R_drew)); exact Kd.R_mono (Kd.R_far (p := ⟨gb510, 4, none⟩) (Kd.R_far (p := ⟨gb510, 3, none⟩) (Kd.R_far (p := ⟨gb510, 2, none⟩) (Kd.R_far (p := ⟨gb510, 1, none⟩) (Kd.R_far (p := ⟨gb510, 0, none⟩) (Kd.R_types HO506.out BK510.out (by decide)) (fun _ hk => hk.2) (.int .i64 t501)) (fun _ hk => hk.2) (.int .i64 t502)) (fun _ hk => hk.2) (.string t503)) (fun _ hk => hk.2) (.slice Ao86 t504.length co86)) (fun _ hk => hk.2) (.slice Ao87 t507.length co87)) (fun _ hk => trivial)⟩
      have n2_ : Aside0 (Kd.N k25 25 (((((w84.setCell ⟨gb510, 0, none⟩ (.int .i64 t501)).setCell ⟨gb510, 1, none⟩ (.int .i64 t502)).setCell ⟨gb510, 2, none⟩ (.string t503)).setCell ⟨gb510, 3, none⟩ (.slice Ao86 t504.length co86)).setCell ⟨gb510, 4, none⟩ (.slice Ao87 t507.length co87)) w.heap.size (fun k_ => some k_ ≠ (.slice Ao86 t504.length co86 : Value).ownBlock ∧ k_ ≠ gb510) (.slice Ao87 t507.length co87) t507) := ⟨by (with_reducible repeat (first | apply Kd.N_alloc | apply Kd.N_drewN | apply Kd.N_drew)); exact Kd.N_mono (Kd.N_far (p := ⟨gb510, 4, none⟩) (Kd.N_far (p := ⟨gb510, 3, none⟩) (Kd.N_far (p := ⟨gb510, 2, none⟩) (Kd.N_far (p := ⟨gb510, 1, none⟩) (Kd.N_far (p := ⟨gb510, 0, none⟩) (Kd.N_mono HO509.out (fun k_ hk => (⟨hk, hk.2⟩ : _ ∧ k_ ≠ gb510))) (fun _ hk => hk.2) (.int .i64 t501)) (fun _ hk => hk.2) (.int .i64 t502)) (fun _ hk => hk.2) (.string t503)) (fun _ hk => hk.2) (.slice Ao86 t504.length co86)) (fun _ hk => hk.2) (.slice Ao87 t507.length co87)) (fun _ hk => ⟨hk.1.1, hk.1.2⟩)⟩
      have n3_ : Aside0 ((((((w84.setCell ⟨gb510, 0, none⟩ (.int .i64 t501)).setCell ⟨gb510, 1, none⟩ (.int .i64 t502)).setCell ⟨gb510, 2, none⟩ (.string t503)).setCell ⟨gb510, 3, none⟩ (.slice Ao86 t504.length co86)).setCell ⟨gb510, 4, none⟩ (.slice Ao87 t507.length co87)).heap[gb510]? = some (.cells #[.int .i64 t501, .int .i64 t502, .string t503, .slice Ao86 t504.length co86, .slice Ao87 t507.length co87] 25 (0, 0))) := ⟨by (with_reducible repeat (first | refine blk_drewN ?_ _ | refine blk_drew ?_ | refine blk_alloc ?_ _)); refine blk_put (cs := #[.int .i64 t501, .int .i64 t502, .string t503, .slice Ao86 t504.length co86, .slice none 0 0]) ?_ 4 _ rfl; (with_reducible repeat (first | refine blk_drewN ?_ _ | refine blk_drew ?_ | refine blk_alloc ?_ _)); refine blk_put (cs := #[.int .i64 t501, .int .i64 t502, .string t503, .slice none 0 0, .slice none 0 0]) ?_ 3 _ rfl; (with_reducible repeat (first | refine blk_drewN ?_ _ | refine blk_drew ?_ | refine blk_alloc ?_ _)); refine blk_put (cs := #[.int .i64 t501, .int .i64 t502, .string (⟨#[]⟩ : ByteArray), .slice none 0 0, .slice none 0 0]) ?_ 2 _ rfl; (with_reducible repeat (first | refine blk_drewN ?_ _ | refine blk_drew ?_ | refine blk_alloc ?_ _)); refine blk_put (cs := #[.int .i64 t501, .int .i64 0, .string (⟨#[]⟩ : ByteArray), .slice none 0 0, .slice none 0 0]) ?_ 1 _ rfl; (with_reducible repeat (first | refine blk_drewN ?_ _ | refine blk_drew ?_ | refine blk_alloc ?_ _)); refine blk_put (cs := #[.int .i64 0, .int .i64 0, .string (⟨#[]⟩ : ByteArray), .slice none 0 0, .slice none 0 0]) ?_ 0 _ rfl; (with_reducible repeat (first | refine blk_drewN ?_ _ | refine blk_drew ?_ | refine blk_alloc ?_ _)); exact BK510.out⟩
      have n4_ : Aside0 (Below w.heap.size w (((((w84.setCell ⟨gb510, 0, none⟩ (.int .i64 t501)).setCell ⟨gb510, 1, none⟩ (.int .i64 t502)).setCell ⟨gb510, 2, none⟩ (.string t503)).setCell ⟨gb510, 3, none⟩ (.slice Ao86 t504.length co86)).setCell ⟨gb510, 4, none⟩ (.slice Ao87 t507.length co87))) := ⟨by repeat (first | (with_reducible first | exact HB.out | apply below_alloc | apply pw_below_drewN | apply below_drew1 | refine below_set ?_ GE510.out) | exact HB.out)⟩
      (try clear HO500)
      (try clear HO506)
      (try clear HO509)
      (try clear BK510)
      (try clear HB)
      generalize (((((w84.setCell ⟨gb510, 0, none⟩ (.int .i64 t501)).setCell ⟨gb510, 1, none⟩ (.int .i64 t502)).setCell ⟨gb510, 2, none⟩ (.string t503)).setCell ⟨gb510, 3, none⟩ (.slice Ao86 t504.length co86)).setCell ⟨gb510, 4, none⟩ (.slice Ao87 t507.length co87)) = w88 at n0_ n1_ n2_ n3_ n4_ ⊢
      have HO500 := n0_
      have HO506 := n1_
      have HO509 := n2_
      have BK510 := n3_
      have HB := n4_
      clear n0_ n1_ n2_ n3_ n4_
      have n0_ := Aside0.mk (Kd.N_drew HO500.out)
      have n1_ := Aside0.mk (Kd.R_drew HO506.out)
      have n2_ := Aside0.mk (Kd.N_drew HO509.out)
      have n3_ := Aside0.mk (blk_drew BK510.out)
      have n4_ := Aside0.mk (below_drew1 HB.out)
      clear HO500
      clear HO506
      clear HO509
      clear BK510
      clear HB
      have HO500 := n0_
      have HO506 := n1_
      have HO509 := n2_
      have BK510 := n3_
      have HB := n4_
      clear n0_ n1_ n2_ n3_ n4_
      refine start_ (n := 10) (S := fun w' => w'.cell? ⟨gb510, 0, none⟩ = some (.int .i64 t501) ∧ w'.cell? ⟨gb510, 1, none⟩ = some (.int .i64 t502) ∧ w'.cell? ⟨gb510, 2, none⟩ = some (.string t503) ∧ w'.cell? ⟨gb510, 3, none⟩ = some (.slice Ao86 t504.length co86) ∧ w'.cell? ⟨gb510, 4, none⟩ = some (.slice Ao87 t507.length co87)) (ds := []) #[false, false, false, false, false, false, false, false, false, false] (by kernel_rfl) rfl rfl ⟨(blk_cell BK510.out 0).trans rfl, (blk_cell BK510.out 1).trans rfl, (blk_cell BK510.out 2).trans rfl, (blk_cell BK510.out 3).trans rfl, (blk_cell BK510.out 4).trans rfl⟩ (fun hHeld => ?_); refine with_tabW sealringlaw29_lives.tab2 sealringlaw29_lives.bits2 (fun HT_ HW_ => ?_)
      generalize w88.drew = w89 at HO500 HO506 HO509 BK510 HB hHeld ⊢
      refine take_ (i := 0) (N := some 11) (v := ?_) (a' := ?_) #[true, false, false, false, false, false, false, false, false, false] rfl rfl (take_ofW HT_.out HW_.out (by kernel_rfl)) (fun _ _ _ h => h) (Or.inl ⟨by rfl, ?_⟩) hHeld ?_ ?_
      rotate_left
      · rintro w' ⟨s0, s1, s2, s3, s4⟩
        go_simp
        with_reducible rfl
      rotate_left
      · simp only [Act.put, List.setIfInBounds_toArray, List.set_cons_zero, List.set_cons_succ, i64_w, i32_w]
        rfl
      refine one_ (i := 1) (N := some 12) #[true, true, false, false, false, false, false, false, false, false] rfl rfl (one_of HT_.out (by kernel_rfl)) (by decide) (fun K hK => ?_)
      refine Kd.R_lit_step Kd.string _ 9 ?hg (N := 12) ?hd (xs := ([(⟨#[97]⟩ : ByteArray)] : List ByteArray)) (inner := [.string (⟨#[97]⟩ : ByteArray)]) (ok := fun _ => True) (okp := fun _ => True) ?hr ?hp (fun _ hk => hk) trivial (Below.refl _ _) (Nat.le_refl _) (by simp) ?_; (case hd => rfl); (case hg => rfl); (case hr => first | (go_simp; done) | (go_simp; rfl)); (case hp => exact (Reps.one (show Kd.M Kd.string _ _ _ (⟨#[97]⟩ : ByteArray) [.string (⟨#[97]⟩ : ByteArray)] from rfl) (Reps.none _ _)))
      intro v512 w90 ho91 hb hg_ hnew_
      clear hg_ hnew_
      (first | rw [← Ny511.out] at ho91 | (simp only [Int.reduceToNat] at ho91; rw [← Ny511.out] at ho91))
      have n0_ := Aside0.mk (Kd.N_elder' (by (with_reducible repeat (first | apply Kd.N_alloc | apply Kd.N_drewN | apply Kd.N_drew)); exact HO500.out) (Kd.R_base ho91) hb)
      have n1_ := Aside0.mk (Kd.R_elder' (by (with_reducible repeat (first | apply Kd.R_alloc | apply Kd.R_drewN | apply Kd.R_drew)); exact HO506.out) (Kd.R_base ho91) hb)
      have n2_ := Aside0.mk (Kd.N_elder' (by (with_reducible repeat (first | apply Kd.N_alloc | apply Kd.N_drewN | apply Kd.N_drew)); exact HO509.out) (Kd.R_base ho91) hb)
      have n3_ := Aside0.mk (Kd.R_lower (Kd.R_new' ho91 (Kd.R_lt (by (with_reducible repeat (first | apply Kd.R_alloc | apply Kd.R_drewN | apply Kd.R_drew)); exact HO506.out))) (below_size (by repeat (first | (with_reducible first | exact HB.out | apply below_alloc | apply pw_below_drewN | apply below_drew1 | refine below_set ?_ GE510.out) | exact HB.out))))
      have n4_ := Aside0.mk (blk_below (g := gb510) (o := .cells #[.int .i64 t501, .int .i64 t502, .string t503, .slice Ao86 t504.length co86, .slice Ao87 t507.length co87] 25 (0, 0)) (by (with_reducible repeat (first | refine blk_drewN ?_ _ | refine blk_drew ?_ | refine blk_alloc ?_ _)); exact BK510.out) hb)
      have n5_ := Aside0.mk (below_step (by repeat (first | (with_reducible first | exact HB.out | apply below_alloc | apply pw_below_drewN | apply below_drew1 | refine below_set ?_ GE510.out) | exact HB.out)) hb)
      clear HO500
      clear HO506
      clear HO509
      clear BK510
      clear HB
      have HO500 := n0_
      have HO506 := n1_
      have HO509 := n2_
      have HO513 := n3_
      have BK510 := n4_
      have HB := n5_
      clear n0_ n1_ n2_ n3_ n4_ n5_
      clear hb ho91
      obtain ⟨Ao92, co92, eo92⟩ := Kd.R_slice HO513.out
      (first | subst eo92 | (injection eo92 with f1_ f2_ f3_; have f4_ := f1_.symm; have f5_ := f3_.symm; clear f1_ f2_ f3_; subst f4_; subst f5_))
      refine hK.out _ _ ⟨(blk_cell BK510.out 0).trans rfl, (blk_cell BK510.out 1).trans rfl, (blk_cell BK510.out 2).trans rfl, (blk_cell BK510.out 3).trans rfl, (blk_cell BK510.out 4).trans rfl⟩ (fun hHeld => ?_)
      clear hK K
      refine norm_ (a' := ?_) ?_ ?_
      rotate_left
      · show Act.put _ (some 12) _ = _
        simp only [Act.put, List.setIfInBounds_toArray, List.set_cons_zero, List.set_cons_succ, i64_w, i32_w]
        rfl
      refine one_ (i := 2) (N := some 13) #[true, true, true, false, false, false, false, false, false, false] rfl rfl (one_of HT_.out (by kernel_rfl)) (by decide) (fun K hK => ?_)
      refine goes_ Try.func27 (by kernel_rfl) rfl #[.int .i64 4, .slice Ao92 y511.length co92] (by rfl) rfl rfl (by (try simp only [List.map_toArray, List.map_cons, List.map_nil]); first | done | rfl | (simp only [List.length_drop, List.length_take]; rfl)) ?_
      with_reducible refine (field_May.calls k 4 _ _ y511 t514 _ ?side1 ?side2 A4.out).mono ?_
      (case side1 => repeat (first | exact (Kd.R_reads' HO513.out).2.2 | (with_reducible refine Kd.C_alloc ?_ _) | (with_reducible refine Kd.C_drewN ?_ _) | (with_reducible refine Kd.C_drew ?_)))
      (case side2 => exact (Kd.R_reads' HO513.out).2.1)
      rintro e w93 ⟨v515, rfl, ho0, hb⟩
      refine ⟨_, rfl, ?_⟩
      have n0_ := Aside0.mk (Kd.N_elder' (by (with_reducible repeat (first | apply Kd.N_alloc | apply Kd.N_drewN | apply Kd.N_drew)); exact HO500.out) (Kd.R_base ho0) hb)
      have n1_ := Aside0.mk (Kd.R_below (by (with_reducible repeat (first | apply Kd.R_alloc | apply Kd.R_drewN | apply Kd.R_drew)); exact HO506.out) hb)
      have n2_ := Aside0.mk (Kd.N_elder' (by (with_reducible repeat (first | apply Kd.N_alloc | apply Kd.N_drewN | apply Kd.N_drew)); exact HO509.out) (Kd.R_base ho0) hb)
      have n3_ := Aside0.mk (Kd.R_below (by (with_reducible repeat (first | apply Kd.R_alloc | apply Kd.R_drewN | apply Kd.R_drew)); exact HO513.out) hb)
      have n4_ := Aside0.mk (Kd.R_lower ho0 (below_size (by repeat (first | (with_reducible first | exact HB.out | apply below_alloc | apply pw_below_drewN | apply below_drew1 | refine below_set ?_ GE510.out) | exact HB.out))))
      have n5_ := Aside0.mk (blk_below (g := gb510) (o := .cells #[.int .i64 t501, .int .i64 t502, .string t503, .slice Ao86 t504.length co86, .slice Ao87 t507.length co87] 25 (0, 0)) (by (with_reducible repeat (first | refine blk_drewN ?_ _ | refine blk_drew ?_ | refine blk_alloc ?_ _)); exact BK510.out) hb)
      have n6_ := Aside0.mk (below_step (by repeat (first | (with_reducible first | exact HB.out | apply below_alloc | apply pw_below_drewN | apply below_drew1 | refine below_set ?_ GE510.out) | exact HB.out)) hb)
      clear HO500
      clear HO506
      clear HO509
      clear HO513
      clear BK510
      clear HB
      have HO500 := n0_
      have HO506 := n1_
      have HO509 := n2_
      have HO513 := n3_
      have HO516 := n4_
      have BK510 := n5_
      have HB := n6_
      clear n0_ n1_ n2_ n3_ n4_ n5_ n6_
      (try clear hb)
      (try clear hb2)
      (try clear hk)
      (try clear hi)
      (try clear ho0)
      obtain ⟨Ao94, co94, eo94⟩ := Kd.R_slice HO516.out
      (first | subst eo94 | (injection eo94 with f1_ f2_ f3_; have f4_ := f1_.symm; have f5_ := f3_.symm; clear f1_ f2_ f3_; subst f4_; subst f5_))
      refine hK.out _ _ ⟨(blk_cell BK510.out 0).trans rfl, (blk_cell BK510.out 1).trans rfl, (blk_cell BK510.out 2).trans rfl, (blk_cell BK510.out 3).trans rfl, (blk_cell BK510.out 4).trans rfl⟩ (fun hHeld => ?_)
      clear hK K
      refine norm_ (a' := ?_) ?_ ?_
      rotate_left
      · show Act.put _ (some 13) _ = _
        simp only [Act.put, List.setIfInBounds_toArray, List.set_cons_zero, List.set_cons_succ, i64_w, i32_w]
        rfl
      refine one_ (i := 3) (N := some 14) #[true, true, true, true, false, false, false, false, false, false] rfl rfl (one_of HT_.out (by kernel_rfl)) (by decide) (fun K hK => ?_)
      refine goes_ Try.func28 (by kernel_rfl) rfl #[.int .i64 1, .slice Ao94 t514.length co94] (by rfl) rfl rfl (by (try simp only [List.map_toArray, List.map_cons, List.map_nil]); first | done | rfl | (simp only [List.length_drop, List.length_take]; rfl)) ?_
      with_reducible refine (field_Most.calls 1 _ _ t514 t517 _ ?side1 ?side2 A5.out).mono ?_
      (case side1 => repeat (first | exact (Kd.R_reads' HO516.out).2.2 | (with_reducible refine Kd.C_alloc ?_ _) | (with_reducible refine Kd.C_drewN ?_ _) | (with_reducible refine Kd.C_drew ?_)))
      (case side2 => exact (Kd.R_reads' HO516.out).2.1)
      rintro e w95 ⟨v518, rfl, ho0, hb⟩
      refine ⟨_, rfl, ?_⟩
      have n0_ := Aside0.mk (Kd.N_elder' (by (with_reducible repeat (first | apply Kd.N_alloc | apply Kd.N_drewN | apply Kd.N_drew)); exact HO500.out) (Kd.R_base ho0) hb)
      have n1_ := Aside0.mk (Kd.R_below (by (with_reducible repeat (first | apply Kd.R_alloc | apply Kd.R_drewN | apply Kd.R_drew)); exact HO506.out) hb)
      have n2_ := Aside0.mk (Kd.N_elder' (by (with_reducible repeat (first | apply Kd.N_alloc | apply Kd.N_drewN | apply Kd.N_drew)); exact HO509.out) (Kd.R_base ho0) hb)
      have n3_ := Aside0.mk (Kd.R_below (by (with_reducible repeat (first | apply Kd.R_alloc | apply Kd.R_drewN | apply Kd.R_drew)); exact HO513.out) hb)
      have n4_ := Aside0.mk (Kd.R_elder' (by (with_reducible repeat (first | apply Kd.R_alloc | apply Kd.R_drewN | apply Kd.R_drew)); exact HO516.out) (Kd.R_base ho0) hb)
      have n5_ := Aside0.mk (Kd.R_lower (Kd.R_new' ho0 (Kd.R_lt (by (with_reducible repeat (first | apply Kd.R_alloc | apply Kd.R_drewN | apply Kd.R_drew)); exact HO516.out))) (below_size (by repeat (first | (with_reducible first | exact HB.out | apply below_alloc | apply pw_below_drewN | apply below_drew1 | refine below_set ?_ GE510.out) | exact HB.out))))
      have n6_ := Aside0.mk (blk_below (g := gb510) (o := .cells #[.int .i64 t501, .int .i64 t502, .string t503, .slice Ao86 t504.length co86, .slice Ao87 t507.length co87] 25 (0, 0)) (by (with_reducible repeat (first | refine blk_drewN ?_ _ | refine blk_drew ?_ | refine blk_alloc ?_ _)); exact BK510.out) hb)
      have n7_ := Aside0.mk (below_step (by repeat (first | (with_reducible first | exact HB.out | apply below_alloc | apply pw_below_drewN | apply below_drew1 | refine below_set ?_ GE510.out) | exact HB.out)) hb)
      clear HO500
      clear HO506
      clear HO509
      clear HO513
      clear HO516
      clear BK510
      clear HB
      have HO500 := n0_
      have HO506 := n1_
      have HO509 := n2_
      have HO513 := n3_
      have HO516 := n4_
      have HO519 := n5_
      have BK510 := n6_
      have HB := n7_
      clear n0_ n1_ n2_ n3_ n4_ n5_ n6_ n7_
      (try clear hb)
      (try clear hb2)
      (try clear hk)
      (try clear hi)
      (try clear ho0)
      obtain ⟨Ao96, co96, eo96⟩ := Kd.R_slice HO519.out
      (first | subst eo96 | (injection eo96 with f1_ f2_ f3_; have f4_ := f1_.symm; have f5_ := f3_.symm; clear f1_ f2_ f3_; subst f4_; subst f5_))
      refine hK.out _ _ ⟨(blk_cell BK510.out 0).trans rfl, (blk_cell BK510.out 1).trans rfl, (blk_cell BK510.out 2).trans rfl, (blk_cell BK510.out 3).trans rfl, (blk_cell BK510.out 4).trans rfl⟩ (fun hHeld => ?_)
      clear hK K
      refine norm_ (a' := ?_) ?_ ?_
      rotate_left
      · show Act.put _ (some 14) _ = _
        simp only [Act.put, List.setIfInBounds_toArray, List.set_cons_zero, List.set_cons_succ, i64_w, i32_w]
        rfl
      refine one_ (i := 4) (N := some 15) #[true, true, true, true, true, false, false, false, false, false] rfl rfl (one_of HT_.out (by kernel_rfl)) (by decide) (fun K hK => ?_)
      refine goes_ Try.func30 (by kernel_rfl) rfl #[.agg #[.int .i64 t501, .int .i64 t502, .string t503, .slice Ao86 t504.length co86, .slice Ao87 t507.length co87], .slice Ao96 t517.length co96] (by rfl) rfl rfl (by (try simp only [List.map_toArray, List.map_cons, List.map_nil]); first | done | rfl | (simp only [List.length_drop, List.length_take]; rfl)) ?_
      with_reducible refine (field_Check.calls k t501 t502 t503 _ _ t504 _ _ t507 _ _ t517 t520 t521 _ ?side1 ?side2 ?side3 ?side4 ?side5 ?side6 A6.out).mono ?_
      (case side1 => repeat (first | exact (Kd.R_reads' HO506.out).2.2 | (with_reducible refine Kd.C_alloc ?_ _) | (with_reducible refine Kd.C_drewN ?_ _) | (with_reducible refine Kd.C_drew ?_)))
      (case side2 => exact (Kd.R_reads' HO506.out).2.1)
      (case side3 => repeat (first | exact (Kd.N_reads' HO509.out).2.2 | (with_reducible refine Kd.C_alloc ?_ _) | (with_reducible refine Kd.C_drewN ?_ _) | (with_reducible refine Kd.C_drew ?_)))
      (case side4 => exact (Kd.N_reads' HO509.out).2.1)
      (case side5 => repeat (first | exact (Kd.R_reads' HO519.out).2.2 | (with_reducible refine Kd.C_alloc ?_ _) | (with_reducible refine Kd.C_drewN ?_ _) | (with_reducible refine Kd.C_drew ?_)))
      (case side6 => exact (Kd.R_reads' HO519.out).2.1)
      rintro e w97 ⟨rfl, hb⟩
      refine ⟨_, rfl, ?_⟩
      have n0_ := Aside0.mk (Kd.N_below (by (with_reducible repeat (first | apply Kd.N_alloc | apply Kd.N_drewN | apply Kd.N_drew)); exact HO500.out) hb)
      have n1_ := Aside0.mk (Kd.R_below (by (with_reducible repeat (first | apply Kd.R_alloc | apply Kd.R_drewN | apply Kd.R_drew)); exact HO506.out) hb)
      have n2_ := Aside0.mk (Kd.N_below (by (with_reducible repeat (first | apply Kd.N_alloc | apply Kd.N_drewN | apply Kd.N_drew)); exact HO509.out) hb)
      have n3_ := Aside0.mk (Kd.R_below (by (with_reducible repeat (first | apply Kd.R_alloc | apply Kd.R_drewN | apply Kd.R_drew)); exact HO513.out) hb)
      have n4_ := Aside0.mk (Kd.R_below (by (with_reducible repeat (first | apply Kd.R_alloc | apply Kd.R_drewN | apply Kd.R_drew)); exact HO516.out) hb)
      have n5_ := Aside0.mk (Kd.R_below (by (with_reducible repeat (first | apply Kd.R_alloc | apply Kd.R_drewN | apply Kd.R_drew)); exact HO519.out) hb)
      have n6_ := Aside0.mk (blk_below (g := gb510) (o := .cells #[.int .i64 t501, .int .i64 t502, .string t503, .slice Ao86 t504.length co86, .slice Ao87 t507.length co87] 25 (0, 0)) (by (with_reducible repeat (first | refine blk_drewN ?_ _ | refine blk_drew ?_ | refine blk_alloc ?_ _)); exact BK510.out) hb)
      have n7_ := Aside0.mk (below_step (by repeat (first | (with_reducible first | exact HB.out | apply below_alloc | apply pw_below_drewN | apply below_drew1 | refine below_set ?_ GE510.out) | exact HB.out)) hb)
      clear HO500
      clear HO506
      clear HO509
      clear HO513
      clear HO516
      clear HO519
      clear BK510
      clear HB
      have HO500 := n0_
      have HO506 := n1_
      have HO509 := n2_
      have HO513 := n3_
      have HO516 := n4_
      have HO519 := n5_
      have BK510 := n6_
      have HB := n7_
      clear n0_ n1_ n2_ n3_ n4_ n5_ n6_ n7_
      (try clear hb)
      (try clear hb2)
      (try clear hk)
      (try clear hi)
      refine hK.out _ _ ⟨(blk_cell BK510.out 0).trans rfl, (blk_cell BK510.out 1).trans rfl, (blk_cell BK510.out 2).trans rfl, (blk_cell BK510.out 3).trans rfl, (blk_cell BK510.out 4).trans rfl⟩ (fun hHeld => ?_)
      clear hK K
      refine norm_ (a' := ?_) ?_ ?_
      rotate_left
      · show Act.put _ (some 15) _ = _
        simp only [Act.put, List.setIfInBounds_toArray, List.set_cons_zero, List.set_cons_succ, i64_w, i32_w]
        rfl
      refine pure_ (i := 5) (N := some 10) (v := ?_) (a' := ?_) #[true, true, true, true, true, true, false, false, false, false] rfl rfl (any_of HT_.out (by kernel_rfl)) (fun _ _ _ h => h) (Or.inl ⟨by rfl, ?_⟩) ?_ ?_
      rotate_left
      · intro w'
        go_simp
        with_reducible rfl
      rotate_left
      · simp only [Act.put, List.setIfInBounds_toArray, List.set_cons_zero, List.set_cons_succ, i64_w, i32_w]
        rfl
      refine pure_ (i := 6) (N := some 16) (v := ?_) (a' := ?_) #[true, true, true, true, true, true, true, false, false, false] rfl rfl (any_of HT_.out (by kernel_rfl)) (fun _ _ _ h => h) (Or.inl ⟨by rfl, ?_⟩) ?_ ?_
      rotate_left
      · intro w'
        go_simp
        with_reducible rfl
      rotate_left
      · simp only [Act.put, List.setIfInBounds_toArray, List.set_cons_zero, List.set_cons_succ, i64_w, i32_w]
        rfl
      refine pure_ (i := 7) (N := some 17) (v := ?_) (a' := ?_) #[true, true, true, true, true, true, true, true, false, false] rfl rfl (any_of HT_.out (by kernel_rfl)) (fun _ _ _ h => h) (Or.inl ⟨by rfl, ?_⟩) ?_ ?_
      rotate_left
      · intro w'
        go_simp
        with_reducible rfl
      rotate_left
      · simp only [Act.put, List.setIfInBounds_toArray, List.set_cons_zero, List.set_cons_succ, i64_w, i32_w]
        rfl
      refine pure_ (i := 8) (N := some 2) (v := ?_) (a' := ?_) #[true, true, true, true, true, true, true, true, true, false] rfl rfl (any_of HT_.out (by kernel_rfl)) (fun _ _ _ h => h) (Or.inl ⟨by rfl, ?_⟩) ?_ ?_
      rotate_left
      · intro w'
        go_simp
        with_reducible rfl
      rotate_left
      · simp only [Act.put, List.setIfInBounds_toArray, List.set_cons_zero, List.set_cons_succ, i64_w, i32_w]
        rfl
      refine pure_ (i := 9) (N := some 3) (v := ?_) (a' := ?_) #[true, true, true, true, true, true, true, true, true, true] rfl rfl (any_of HT_.out (by kernel_rfl)) (fun _ _ _ h => h) (Or.inl ⟨by rfl, ?_⟩) ?_ ?_
      rotate_left
      · intro w'
        go_simp
        with_reducible rfl
      rotate_left
      · simp only [Act.put, List.setIfInBounds_toArray, List.set_cons_zero, List.set_cons_succ, i64_w, i32_w]
        rfl
      refine done_ (done_of HT_.out (by kernel_rfl)) ?_
      try go_wp2
      have n0_ := Aside0.mk (Kd.N_drew HO500.out)
      have n1_ := Aside0.mk (Kd.R_drew HO506.out)
      have n2_ := Aside0.mk (Kd.N_drew HO509.out)
      have n3_ := Aside0.mk (Kd.R_drew HO513.out)
      have n4_ := Aside0.mk (Kd.R_drew HO516.out)
      have n5_ := Aside0.mk (Kd.R_drew HO519.out)
      have n6_ := Aside0.mk (blk_drew BK510.out)
      have n7_ := Aside0.mk (below_drew1 HB.out)
      clear HO500
      clear HO506
      clear HO509
      clear HO513
      clear HO516
      clear HO519
      clear BK510
      clear HB
      have HO500 := n0_
      have HO506 := n1_
      have HO509 := n2_
      have HO513 := n3_
      have HO516 := n4_
      have HO519 := n5_
      have BK510 := n6_
      have HB := n7_
      clear n0_ n1_ n2_ n3_ n4_ n5_ n6_ n7_
      refine start_ (n := 9) (S := fun w' => w'.cell? ⟨gb510, 0, none⟩ = some (.int .i64 t501) ∧ w'.cell? ⟨gb510, 1, none⟩ = some (.int .i64 t502) ∧ w'.cell? ⟨gb510, 2, none⟩ = some (.string t503) ∧ w'.cell? ⟨gb510, 3, none⟩ = some (.slice Ao86 t504.length co86) ∧ w'.cell? ⟨gb510, 4, none⟩ = some (.slice Ao87 t507.length co87)) (ds := []) #[false, false, false, false, false, false, false, false, false] (by kernel_rfl) rfl rfl ⟨(blk_cell BK510.out 0).trans rfl, (blk_cell BK510.out 1).trans rfl, (blk_cell BK510.out 2).trans rfl, (blk_cell BK510.out 3).trans rfl, (blk_cell BK510.out 4).trans rfl⟩ (fun hHeld => ?_); refine with_tabW sealringlaw29_lives.tab3 sealringlaw29_lives.bits3 (fun HT_ HW_ => ?_)
      generalize w97.drew = w98 at HO500 HO506 HO509 HO513 HO516 HO519 BK510 HB hHeld ⊢
      refine take_ (i := 0) (N := some 19) (v := ?_) (a' := ?_) #[true, false, false, false, false, false, false, false, false] rfl rfl (take_ofW HT_.out HW_.out (by kernel_rfl)) (fun _ _ _ h => h) (Or.inl ⟨by rfl, ?_⟩) hHeld ?_ ?_
      rotate_left
      · rintro w' ⟨s0, s1, s2, s3, s4⟩
        go_simp
        with_reducible rfl
      rotate_left
      · simp only [Act.put, List.setIfInBounds_toArray, List.set_cons_zero, List.set_cons_succ, i64_w, i32_w]
        rfl
      refine one_ (i := 1) (N := some 20) #[true, true, false, false, false, false, false, false, false] rfl rfl (one_of HT_.out (by kernel_rfl)) (by decide) (fun K hK => ?_)
      refine Kd.R_lit_step Kd.string _ 9 ?hg (N := 20) ?hd (xs := ([(⟨#[98]⟩ : ByteArray)] : List ByteArray)) (inner := [.string (⟨#[98]⟩ : ByteArray)]) (ok := fun _ => True) (okp := fun _ => True) ?hr ?hp (fun _ hk => hk) trivial (Below.refl _ _) (Nat.le_refl _) (by simp) ?_; (case hd => rfl); (case hg => rfl); (case hr => first | (go_simp; done) | (go_simp; rfl)); (case hp => exact (Reps.one (show Kd.M Kd.string _ _ _ (⟨#[98]⟩ : ByteArray) [.string (⟨#[98]⟩ : ByteArray)] from rfl) (Reps.none _ _)))
      intro v523 w99 ho100 hb hg_ hnew_
      clear hg_ hnew_
      (first | rw [← Ny522.out] at ho100 | (simp only [Int.reduceToNat] at ho100; rw [← Ny522.out] at ho100))
      have n0_ := Aside0.mk (Kd.N_elder' (by (with_reducible repeat (first | apply Kd.N_alloc | apply Kd.N_drewN | apply Kd.N_drew)); exact HO500.out) (Kd.R_base ho100) hb)
      have n1_ := Aside0.mk (Kd.R_elder' (by (with_reducible repeat (first | apply Kd.R_alloc | apply Kd.R_drewN | apply Kd.R_drew)); exact HO506.out) (Kd.R_base ho100) hb)
      have n2_ := Aside0.mk (Kd.N_elder' (by (with_reducible repeat (first | apply Kd.N_alloc | apply Kd.N_drewN | apply Kd.N_drew)); exact HO509.out) (Kd.R_base ho100) hb)
      have n3_ := Aside0.mk (Kd.R_elder' (by (with_reducible repeat (first | apply Kd.R_alloc | apply Kd.R_drewN | apply Kd.R_drew)); exact HO513.out) (Kd.R_base ho100) hb)
      have n4_ := Aside0.mk (Kd.R_below (by (with_reducible repeat (first | apply Kd.R_alloc | apply Kd.R_drewN | apply Kd.R_drew)); exact HO516.out) hb)
      have n5_ := Aside0.mk (Kd.R_below (by (with_reducible repeat (first | apply Kd.R_alloc | apply Kd.R_drewN | apply Kd.R_drew)); exact HO519.out) hb)
      have n6_ := Aside0.mk (Kd.R_lower (Kd.R_new' (Kd.R_new' ho100 (Kd.R_lt (by (with_reducible repeat (first | apply Kd.R_alloc | apply Kd.R_drewN | apply Kd.R_drew)); exact HO506.out))) (Kd.R_lt (by (with_reducible repeat (first | apply Kd.R_alloc | apply Kd.R_drewN | apply Kd.R_drew)); exact HO513.out))) (below_size (by repeat (first | (with_reducible first | exact HB.out | apply below_alloc | apply pw_below_drewN | apply below_drew1 | refine below_set ?_ GE510.out) | exact HB.out))))
      have n7_ := Aside0.mk (blk_below (g := gb510) (o := .cells #[.int .i64 t501, .int .i64 t502, .string t503, .slice Ao86 t504.length co86, .slice Ao87 t507.length co87] 25 (0, 0)) (by (with_reducible repeat (first | refine blk_drewN ?_ _ | refine blk_drew ?_ | refine blk_alloc ?_ _)); exact BK510.out) hb)
      have n8_ := Aside0.mk (below_step (by repeat (first | (with_reducible first | exact HB.out | apply below_alloc | apply pw_below_drewN | apply below_drew1 | refine below_set ?_ GE510.out) | exact HB.out)) hb)
      clear HO500
      clear HO506
      clear HO509
      clear HO513
      clear HO516
      clear HO519
      clear BK510
      clear HB
      have HO500 := n0_
      have HO506 := n1_
      have HO509 := n2_
      have HO513 := n3_
      have HO516 := n4_
      have HO519 := n5_
      have HO524 := n6_
      have BK510 := n7_
      have HB := n8_
      clear n0_ n1_ n2_ n3_ n4_ n5_ n6_ n7_ n8_
      clear hb ho100
      obtain ⟨Ao101, co101, eo101⟩ := Kd.R_slice HO524.out
      (first | subst eo101 | (injection eo101 with f1_ f2_ f3_; have f4_ := f1_.symm; have f5_ := f3_.symm; clear f1_ f2_ f3_; subst f4_; subst f5_))
      refine hK.out _ _ ⟨(blk_cell BK510.out 0).trans rfl, (blk_cell BK510.out 1).trans rfl, (blk_cell BK510.out 2).trans rfl, (blk_cell BK510.out 3).trans rfl, (blk_cell BK510.out 4).trans rfl⟩ (fun hHeld => ?_)
      clear hK K
      refine norm_ (a' := ?_) ?_ ?_
      rotate_left
      · show Act.put _ (some 20) _ = _
        simp only [Act.put, List.setIfInBounds_toArray, List.set_cons_zero, List.set_cons_succ, i64_w, i32_w]
        rfl
      refine one_ (i := 2) (N := some 21) #[true, true, true, false, false, false, false, false, false] rfl rfl (one_of HT_.out (by kernel_rfl)) (by decide) (fun K hK => ?_)
      refine goes_ Try.func26 (by kernel_rfl) rfl #[.int .i64 0, .slice Ao101 y522.length co101] (by rfl) rfl rfl (by (try simp only [List.map_toArray, List.map_cons, List.map_nil]); first | done | rfl | (simp only [List.length_drop, List.length_take]; rfl)) ?_
      with_reducible refine (field_Must.calls k 0 _ _ y522 t525 _ ?side1 ?side2 A7.out).mono ?_
      (case side1 => repeat (first | exact (Kd.R_reads' HO524.out).2.2 | (with_reducible refine Kd.C_alloc ?_ _) | (with_reducible refine Kd.C_drewN ?_ _) | (with_reducible refine Kd.C_drew ?_)))
      (case side2 => exact (Kd.R_reads' HO524.out).2.1)
      rintro e w102 ⟨v526, rfl, ho0, hb⟩
      refine ⟨_, rfl, ?_⟩
      have n0_ := Aside0.mk (Kd.N_elder' (by (with_reducible repeat (first | apply Kd.N_alloc | apply Kd.N_drewN | apply Kd.N_drew)); exact HO500.out) (Kd.R_base ho0) hb)
      have n1_ := Aside0.mk (Kd.R_below (by (with_reducible repeat (first | apply Kd.R_alloc | apply Kd.R_drewN | apply Kd.R_drew)); exact HO506.out) hb)
      have n2_ := Aside0.mk (Kd.N_elder' (by (with_reducible repeat (first | apply Kd.N_alloc | apply Kd.N_drewN | apply Kd.N_drew)); exact HO509.out) (Kd.R_base ho0) hb)
      have n3_ := Aside0.mk (Kd.R_below (by (with_reducible repeat (first | apply Kd.R_alloc | apply Kd.R_drewN | apply Kd.R_drew)); exact HO513.out) hb)
      have n4_ := Aside0.mk (Kd.R_elder' (by (with_reducible repeat (first | apply Kd.R_alloc | apply Kd.R_drewN | apply Kd.R_drew)); exact HO516.out) (Kd.R_base ho0) hb)
      have n5_ := Aside0.mk (Kd.R_elder' (by (with_reducible repeat (first | apply Kd.R_alloc | apply Kd.R_drewN | apply Kd.R_drew)); exact HO519.out) (Kd.R_base ho0) hb)
      have n6_ := Aside0.mk (Kd.R_below (by (with_reducible repeat (first | apply Kd.R_alloc | apply Kd.R_drewN | apply Kd.R_drew)); exact HO524.out) hb)
      have n7_ := Aside0.mk (Kd.R_lower (Kd.R_new' (Kd.R_new' ho0 (Kd.R_lt (by (with_reducible repeat (first | apply Kd.R_alloc | apply Kd.R_drewN | apply Kd.R_drew)); exact HO516.out))) (Kd.R_lt (by (with_reducible repeat (first | apply Kd.R_alloc | apply Kd.R_drewN | apply Kd.R_drew)); exact HO519.out))) (below_size (by repeat (first | (with_reducible first | exact HB.out | apply below_alloc | apply pw_below_drewN | apply below_drew1 | refine below_set ?_ GE510.out) | exact HB.out))))
      have n8_ := Aside0.mk (blk_below (g := gb510) (o := .cells #[.int .i64 t501, .int .i64 t502, .string t503, .slice Ao86 t504.length co86, .slice Ao87 t507.length co87] 25 (0, 0)) (by (with_reducible repeat (first | refine blk_drewN ?_ _ | refine blk_drew ?_ | refine blk_alloc ?_ _)); exact BK510.out) hb)
      have n9_ := Aside0.mk (below_step (by repeat (first | (with_reducible first | exact HB.out | apply below_alloc | apply pw_below_drewN | apply below_drew1 | refine below_set ?_ GE510.out) | exact HB.out)) hb)
      clear HO500
      clear HO506
      clear HO509
      clear HO513
      clear HO516
      clear HO519
      clear HO524
      clear BK510
      clear HB
      have HO500 := n0_
      have HO506 := n1_
      have HO509 := n2_
      have HO513 := n3_
      have HO516 := n4_
      have HO519 := n5_
      have HO524 := n6_
      have HO527 := n7_
      have BK510 := n8_
      have HB := n9_
      clear n0_ n1_ n2_ n3_ n4_ n5_ n6_ n7_ n8_ n9_
      (try clear hb)
      (try clear hb2)
      (try clear hk)
      (try clear hi)
      (try clear ho0)
      obtain ⟨Ao103, co103, eo103⟩ := Kd.R_slice HO527.out
      (first | subst eo103 | (injection eo103 with f1_ f2_ f3_; have f4_ := f1_.symm; have f5_ := f3_.symm; clear f1_ f2_ f3_; subst f4_; subst f5_))
      refine hK.out _ _ ⟨(blk_cell BK510.out 0).trans rfl, (blk_cell BK510.out 1).trans rfl, (blk_cell BK510.out 2).trans rfl, (blk_cell BK510.out 3).trans rfl, (blk_cell BK510.out 4).trans rfl⟩ (fun hHeld => ?_)
      clear hK K
      refine norm_ (a' := ?_) ?_ ?_
      rotate_left
      · show Act.put _ (some 21) _ = _
        simp only [Act.put, List.setIfInBounds_toArray, List.set_cons_zero, List.set_cons_succ, i64_w, i32_w]
        rfl
      refine one_ (i := 3) (N := some 22) #[true, true, true, true, false, false, false, false, false] rfl rfl (one_of HT_.out (by kernel_rfl)) (by decide) (fun K hK => ?_)
      refine goes_ Try.func30 (by kernel_rfl) rfl #[.agg #[.int .i64 t501, .int .i64 t502, .string t503, .slice Ao86 t504.length co86, .slice Ao87 t507.length co87], .slice Ao103 t525.length co103] (by rfl) rfl rfl (by (try simp only [List.map_toArray, List.map_cons, List.map_nil]); first | done | rfl | (simp only [List.length_drop, List.length_take]; rfl)) ?_
      with_reducible refine (field_Check.calls k t501 t502 t503 _ _ t504 _ _ t507 _ _ t525 t528 t529 _ ?side1 ?side2 ?side3 ?side4 ?side5 ?side6 A8.out).mono ?_
      (case side1 => repeat (first | exact (Kd.R_reads' HO506.out).2.2 | (with_reducible refine Kd.C_alloc ?_ _) | (with_reducible refine Kd.C_drewN ?_ _) | (with_reducible refine Kd.C_drew ?_)))
      (case side2 => exact (Kd.R_reads' HO506.out).2.1)
      (case side3 => repeat (first | exact (Kd.N_reads' HO509.out).2.2 | (with_reducible refine Kd.C_alloc ?_ _) | (with_reducible refine Kd.C_drewN ?_ _) | (with_reducible refine Kd.C_drew ?_)))
      (case side4 => exact (Kd.N_reads' HO509.out).2.1)
      (case side5 => repeat (first | exact (Kd.R_reads' HO527.out).2.2 | (with_reducible refine Kd.C_alloc ?_ _) | (with_reducible refine Kd.C_drewN ?_ _) | (with_reducible refine Kd.C_drew ?_)))
      (case side6 => exact (Kd.R_reads' HO527.out).2.1)
      rintro e w104 ⟨rfl, hb⟩
      refine ⟨_, rfl, ?_⟩
      have n0_ := Aside0.mk (Kd.N_below (by (with_reducible repeat (first | apply Kd.N_alloc | apply Kd.N_drewN | apply Kd.N_drew)); exact HO500.out) hb)
      have n1_ := Aside0.mk (Kd.R_below (by (with_reducible repeat (first | apply Kd.R_alloc | apply Kd.R_drewN | apply Kd.R_drew)); exact HO506.out) hb)
      have n2_ := Aside0.mk (Kd.N_below (by (with_reducible repeat (first | apply Kd.N_alloc | apply Kd.N_drewN | apply Kd.N_drew)); exact HO509.out) hb)
      have n3_ := Aside0.mk (Kd.R_below (by (with_reducible repeat (first | apply Kd.R_alloc | apply Kd.R_drewN | apply Kd.R_drew)); exact HO513.out) hb)
      have n4_ := Aside0.mk (Kd.R_below (by (with_reducible repeat (first | apply Kd.R_alloc | apply Kd.R_drewN | apply Kd.R_drew)); exact HO516.out) hb)
      have n5_ := Aside0.mk (Kd.R_below (by (with_reducible repeat (first | apply Kd.R_alloc | apply Kd.R_drewN | apply Kd.R_drew)); exact HO519.out) hb)
      have n6_ := Aside0.mk (Kd.R_below (by (with_reducible repeat (first | apply Kd.R_alloc | apply Kd.R_drewN | apply Kd.R_drew)); exact HO524.out) hb)
      have n7_ := Aside0.mk (Kd.R_below (by (with_reducible repeat (first | apply Kd.R_alloc | apply Kd.R_drewN | apply Kd.R_drew)); exact HO527.out) hb)
      have n8_ := Aside0.mk (blk_below (g := gb510) (o := .cells #[.int .i64 t501, .int .i64 t502, .string t503, .slice Ao86 t504.length co86, .slice Ao87 t507.length co87] 25 (0, 0)) (by (with_reducible repeat (first | refine blk_drewN ?_ _ | refine blk_drew ?_ | refine blk_alloc ?_ _)); exact BK510.out) hb)
      have n9_ := Aside0.mk (below_step (by repeat (first | (with_reducible first | exact HB.out | apply below_alloc | apply pw_below_drewN | apply below_drew1 | refine below_set ?_ GE510.out) | exact HB.out)) hb)
      clear HO500
      clear HO506
      clear HO509
      clear HO513
      clear HO516
      clear HO519
      clear HO524
      clear HO527
      clear BK510
      clear HB
      have HO500 := n0_
      have HO506 := n1_
      have HO509 := n2_
      have HO513 := n3_
      have HO516 := n4_
      have HO519 := n5_
      have HO524 := n6_
      have HO527 := n7_
      have BK510 := n8_
      have HB := n9_
      clear n0_ n1_ n2_ n3_ n4_ n5_ n6_ n7_ n8_ n9_
      (try clear hb)
      (try clear hb2)
      (try clear hk)
      (try clear hi)
      refine hK.out _ _ ⟨(blk_cell BK510.out 0).trans rfl, (blk_cell BK510.out 1).trans rfl, (blk_cell BK510.out 2).trans rfl, (blk_cell BK510.out 3).trans rfl, (blk_cell BK510.out 4).trans rfl⟩ (fun hHeld => ?_)
      clear hK K
      refine norm_ (a' := ?_) ?_ ?_
      rotate_left
      · show Act.put _ (some 22) _ = _
        simp only [Act.put, List.setIfInBounds_toArray, List.set_cons_zero, List.set_cons_succ, i64_w, i32_w]
        rfl
      refine pure_ (i := 4) (N := some 18) (v := ?_) (a' := ?_) #[true, true, true, true, true, false, false, false, false] rfl rfl (any_of HT_.out (by kernel_rfl)) (fun _ _ _ h => h) (Or.inl ⟨by rfl, ?_⟩) ?_ ?_
      rotate_left
      · intro w'
        go_simp
        with_reducible rfl
      rotate_left
      · simp only [Act.put, List.setIfInBounds_toArray, List.set_cons_zero, List.set_cons_succ, i64_w, i32_w]
        rfl
      refine pure_ (i := 5) (N := some 23) (v := ?_) (a' := ?_) #[true, true, true, true, true, true, false, false, false] rfl rfl (any_of HT_.out (by kernel_rfl)) (fun _ _ _ h => h) (Or.inl ⟨by rfl, ?_⟩) ?_ ?_
      rotate_left
      · intro w'
        go_simp
        with_reducible rfl
      rotate_left
      · simp only [Act.put, List.setIfInBounds_toArray, List.set_cons_zero, List.set_cons_succ, i64_w, i32_w]
        rfl
      refine pure_ (i := 6) (N := some 24) (v := ?_) (a' := ?_) #[true, true, true, true, true, true, true, false, false] rfl rfl (any_of HT_.out (by kernel_rfl)) (fun _ _ _ h => h) (Or.inl ⟨by rfl, ?_⟩) ?_ ?_
      rotate_left
      · intro w'
        go_simp
        with_reducible rfl
      rotate_left
      · simp only [Act.put, List.setIfInBounds_toArray, List.set_cons_zero, List.set_cons_succ, i64_w, i32_w]
        rfl
      refine pure_ (i := 7) (N := some 4) (v := ?_) (a' := ?_) #[true, true, true, true, true, true, true, true, false] rfl rfl (any_of HT_.out (by kernel_rfl)) (fun _ _ _ h => h) (Or.inl ⟨by rfl, ?_⟩) ?_ ?_
      rotate_left
      · intro w'
        go_simp
        with_reducible rfl
      rotate_left
      · simp only [Act.put, List.setIfInBounds_toArray, List.set_cons_zero, List.set_cons_succ, i64_w, i32_w]
        rfl
      refine pure_ (i := 8) (N := some 5) (v := ?_) (a' := ?_) #[true, true, true, true, true, true, true, true, true] rfl rfl (any_of HT_.out (by kernel_rfl)) (fun _ _ _ h => h) (Or.inl ⟨by rfl, ?_⟩) ?_ ?_
      rotate_left
      · intro w'
        go_simp
        with_reducible rfl
      rotate_left
      · simp only [Act.put, List.setIfInBounds_toArray, List.set_cons_zero, List.set_cons_succ, i64_w, i32_w]
        rfl
      refine done_ (done_of HT_.out (by kernel_rfl)) ?_
      try go_wp2
      go_ret
      exact ⟨by first | rfl | (simp [errW_none, errW_some] <;> rfl) | (simp [*, errW_none, errW_some] <;> rfl), by repeat (first | (with_reducible first | exact HB.out | apply below_alloc | apply pw_below_drewN | apply below_drew1 | refine below_set ?_ GE510.out) | exact HB.out)⟩
  · rw [if_neg c9] at H
    have c9b0 : (t520.toList == ([97] : List UInt8)) = false := beq_eq_false_iff_ne.mpr c9
    have c9b1 : (t520.toList != ([97] : List UInt8)) = true := bne_iff_ne.mpr c9
    obtain rfl := Option.some.inj H
    have hu29 := Try.underlying29
    go_enter Try.func25, Try.ntmps25
    try go_wp2_with (first | ((with_reducible refine gate_callee (f := 23) rfl ?_); refine goesL_ (some 6) rfl rfl Try.func23 (by kernel_rfl) rfl #[.string (⟨#[97]⟩ : ByteArray)] rfl (by (try simp only [List.map_toArray, List.map_cons, List.map_nil]); first | done | rfl | (simp only [List.length_drop, List.length_take]; rfl)) ?_; (with_reducible refine (tree_Text.calls (⟨#[97]⟩ : ByteArray) t480 t481 t482 t483 t486 _ A1.out).mono ?_); rintro e w105 ⟨v484, v487, rfl, ho0, ho1, hb⟩; refine ⟨_, rfl, ?_⟩; have n0_ := Aside0.mk (Kd.R_lower ho0 (below_size (by repeat (first | (with_reducible first | exact HB.out | apply below_alloc | apply pw_below_drewN | apply below_drew1) | exact HB.out)))); have n1_ := Aside0.mk (Kd.N_lower (Kd.N_mono (ok' := fun k_ => some k_ ≠ (v484 : Value).ownBlock) (Kd.R_N (Kd.R_bound ho1)) (fun k_ hk_ => hk_.1)) (below_size (by repeat (first | (with_reducible first | exact HB.out | apply below_alloc | apply pw_below_drewN | apply below_drew1) | exact HB.out)))); have n2_ := Aside0.mk (below_step (by repeat (first | (with_reducible first | exact HB.out | apply below_alloc | apply pw_below_drewN | apply below_drew1) | exact HB.out)) hb); clear HB; have HO485 := n0_; have HO488 := n1_; have HB := n2_; clear n0_ n1_ n2_; (try clear hb); (try clear hb2); (try clear hk); (try clear hi); (try clear ho0); (try clear ho1)) | ((with_reducible refine gate_callee (f := 23) rfl ?_); refine goesL_ (some 7) rfl rfl Try.func23 (by kernel_rfl) rfl #[.string (⟨#[120, 121]⟩ : ByteArray)] rfl (by (try simp only [List.map_toArray, List.map_cons, List.map_nil]); first | done | rfl | (simp only [List.length_drop, List.length_take]; rfl)) ?_; (with_reducible refine (tree_Text.calls (⟨#[120, 121]⟩ : ByteArray) t489 t490 t491 t492 t495 _ A2.out).mono ?_); rintro e w106 ⟨v493, v496, rfl, ho0, ho1, hb⟩; refine ⟨_, rfl, ?_⟩; have n0_ := Aside0.mk (Kd.R_elder' (by (with_reducible repeat (first | apply Kd.R_alloc | apply Kd.R_drewN | apply Kd.R_drew)); exact HO485.out) (Kd.R_base ho0) hb); have n1_ := Aside0.mk (Kd.N_mono (Kd.N_told (Kd.N_told (Kd.N_old (by (with_reducible repeat (first | apply Kd.N_alloc | apply Kd.N_drewN | apply Kd.N_drew)); exact HO488.out) hb) (Kd.R_base ho0)) (by first | exact Kd.N_base ho1 | exact Kd.N_base (Kd.R_N (Kd.R_bound ho1)) | exact Kd.N_base (Kd.R_N ho1))) (fun _ h_ => h_.1)); have n2_ := Aside0.mk (Kd.R_lower (Kd.R_new' ho0 (Kd.R_lt (by (with_reducible repeat (first | apply Kd.R_alloc | apply Kd.R_drewN | apply Kd.R_drew)); exact HO485.out))) (below_size (by repeat (first | (with_reducible first | exact HB.out | apply below_alloc | apply pw_below_drewN | apply below_drew1) | exact HB.out)))); have n3_ := Aside0.mk (Kd.N_lower (Kd.N_mono (ok' := fun k_ => some k_ ≠ (v493 : Value).ownBlock ∧ some k_ ≠ (v484 : Value).ownBlock ∧ some k_ ≠ (v487 : Value).ownBlock) (Kd.R_N (Kd.R_bound ho1)) (fun k_ hk_ => ⟨hk_.1, (Kd.fresh' (Kd.R_lt (by (with_reducible repeat (first | apply Kd.R_alloc | apply Kd.R_drewN | apply Kd.R_drew)); exact HO485.out)) k_ hk_.2.1), (Kd.fresh' (Kd.N_lt (by (with_reducible repeat (first | apply Kd.N_alloc | apply Kd.N_drewN | apply Kd.N_drew)); exact HO488.out)) k_ hk_.2.1)⟩)) (below_size (by repeat (first | (with_reducible first | exact HB.out | apply below_alloc | apply pw_below_drewN | apply below_drew1) | exact HB.out)))); have n4_ := Aside0.mk (below_step (by repeat (first | (with_reducible first | exact HB.out | apply below_alloc | apply pw_below_drewN | apply below_drew1) | exact HB.out)) hb); clear HO485; clear HO488; clear HB; have HO485 := n0_; have HO488 := n1_; have HO494 := n2_; have HO497 := n3_; have HB := n4_; clear n0_ n1_ n2_ n3_ n4_; (try clear hb); (try clear hb2); (try clear hk); (try clear hi); (try clear ho0); (try clear ho1); obtain ⟨Ao107, co107, eo107⟩ := Kd.R_slice HO485.out; subst eo107; obtain ⟨Ao108, co108, eo108⟩ := Kd.N_slice HO488.out; subst eo108; obtain ⟨Ao109, co109, eo109⟩ := Kd.R_slice HO494.out; subst eo109; obtain ⟨Ao110, co110, eo110⟩ := Kd.N_slice HO497.out; subst eo110) | ((with_reducible refine gate_dst (N := 8) rfl ?_); refine Kd.N_lit k25 _ 25 ?hg (N' := 8) ?hd (xs := ([(⟨t480, t481, t482, t483, t486⟩ : S25), (⟨t489, t490, t491, t492, t495⟩ : S25)] : List (S25))) (inner := [.int .i64 t480, .int .i64 t481, .string t482, .slice Ao107 t483.length co107, .slice Ao108 t486.length co108, .int .i64 t489, .int .i64 t490, .string t491, .slice Ao109 t492.length co109, .slice Ao110 t495.length co110]) (ok := (fun _ => True)) (okp := (fun _ => True)) ?hr ?hp (fun _ hk => hk) ((show ∀ k_, w106.heap.size ≤ k_ → (fun _ => True) k_ from fun k_ hk => trivial) _ (Nat.le_refl _)) (Below.refl _ _) (Nat.le_refl _) (by simp) ?_; (case hd => rfl); (case hg => rfl); (case hr => first | (go_simp; done) | (go_simp; rfl)); (case hp => exact (Reps.c5 (show Kd.FK k25 _ _ (⟨t480, t481, t482, t483, t486⟩ : S25) [.int .i64 t480, .int .i64 t481, .string t482, .slice Ao107 t483.length co107, .slice Ao108 t486.length co108] from (k25_mkF _ _ (⟨t480, t481, t482, t483, t486⟩ : S25) (Kd.R_reads' (Kd.R_mono (ok' := (fun _ => True)) (HO485.out) (fun k_ hk => trivial))).2.1 (Kd.R_F (Kd.R_mono (ok' := (fun _ => True)) (HO485.out) (fun k_ hk => trivial))) (Kd.N_reads' (Kd.N_mono (ok' := (fun _ => True)) (HO488.out) (fun k_ hk => trivial))).2.1 (Kd.N_F (Kd.N_mono (ok' := (fun _ => True)) (HO488.out) (fun k_ hk => trivial))))) (Reps.c5 (show Kd.FK k25 _ _ (⟨t489, t490, t491, t492, t495⟩ : S25) [.int .i64 t489, .int .i64 t490, .string t491, .slice Ao109 t492.length co109, .slice Ao110 t495.length co110] from (k25_mkF _ _ (⟨t489, t490, t491, t492, t495⟩ : S25) (Kd.R_reads' (Kd.R_mono (ok' := (fun _ => True)) (HO494.out) (fun k_ hk => trivial))).2.1 (Kd.R_F (Kd.R_mono (ok' := (fun _ => True)) (HO494.out) (fun k_ hk => trivial))) (Kd.N_reads' (Kd.N_mono (ok' := (fun _ => True)) (HO497.out) (fun k_ hk => trivial))).2.1 (Kd.N_F (Kd.N_mono (ok' := (fun _ => True)) (HO497.out) (fun k_ hk => trivial))))) (Reps.none _ _)))); intro v499 w111 ho112 hb hg_ hnew_; clear hg_ hnew_; (first | rw [← Ny498.out] at ho112 | (simp only [Int.reduceToNat] at ho112; rw [← Ny498.out] at ho112)); have n0_ := Aside0.mk (Kd.N_lower ho112 (below_size (by repeat (first | (with_reducible first | exact HB.out | apply below_alloc | apply pw_below_drewN | apply below_drew1) | exact HB.out)))); have n1_ := Aside0.mk (below_step (by repeat (first | (with_reducible first | exact HB.out | apply below_alloc | apply pw_below_drewN | apply below_drew1) | exact HB.out)) hb); clear HB; clear HO485; clear HO488; clear HO494; clear HO497; have HO500 := n0_; have HB := n1_; clear n0_ n1_; clear hb ho112; obtain ⟨Ao113, co113, eo113⟩ := Kd.N_slice HO500.out; subst eo113) | ((with_reducible refine gate_callee (f := 22) rfl ?_); refine goesL_ (some 9) rfl rfl Try.func22 (by kernel_rfl) rfl #[.slice Ao113 y498.length co113] rfl (by (try simp only [List.map_toArray, List.map_cons, List.map_nil]); first | done | rfl | (simp only [List.length_drop, List.length_take]; rfl)) ?_; (with_reducible refine (tree_Map.calls k (fun k_ => True) _ _ y498 t501 t502 t503 t504 t507 _ ?side1 A3.out).mono ?_); (case side1 => exact Kd.N_V (HO500.out)); rintro e w114 ⟨v505, v508, rfl, ho0, ho1, hb⟩; refine ⟨_, rfl, ?_⟩; have n0_ := Aside0.mk (Kd.N_mono (Kd.N_told (Kd.N_told (Kd.N_old (by (with_reducible repeat (first | apply Kd.N_alloc | apply Kd.N_drewN | apply Kd.N_drew)); exact HO500.out) hb) (Kd.R_base ho0)) (by first | exact Kd.N_base ho1 | exact Kd.N_base (Kd.R_N (Kd.R_bound ho1)) | exact Kd.N_base (Kd.R_N ho1))) (fun _ h_ => h_.1)); have n1_ := Aside0.mk (Kd.R_lower (Kd.R_mono (ok' := fun k_ => True) ho0 (fun _ hk_ => trivial)) (below_size (by repeat (first | (with_reducible first | exact HB.out | apply below_alloc | apply pw_below_drewN | apply below_drew1) | exact HB.out)))); have n2_ := Aside0.mk (Kd.N_lower (Kd.N_mono (ok' := fun k_ => some k_ ≠ (v505 : Value).ownBlock) ho1 (fun k_ hk_ => hk_.2)) (below_size (by repeat (first | (with_reducible first | exact HB.out | apply below_alloc | apply pw_below_drewN | apply below_drew1) | exact HB.out)))); have n3_ := Aside0.mk (below_step (by repeat (first | (with_reducible first | exact HB.out | apply below_alloc | apply pw_below_drewN | apply below_drew1) | exact HB.out)) hb); clear HO500; clear HB; have HO500 := n0_; have HO506 := n1_; have HO509 := n2_; have HB := n3_; clear n0_ n1_ n2_ n3_; (try clear hb); (try clear hb2); (try clear hk); (try clear hi); (try clear ho0); (try clear ho1)) | ((with_reducible refine gate_dst (N := 1) rfl ?_); refine box_event ?hg (N := 1) ?hd (cs := #[.int .i64 0, .int .i64 0, .string (⟨#[]⟩ : ByteArray), .slice none 0 0, .slice none 0 0]) (t := 25) ?hr ?_; (case hd => rfl); (case hg => rfl); (case hr => first | (go_simp; done) | (go_simp; rfl)); intro gb510 hg w115 hbox hb; have n0_ := Aside0.mk (Kd.N_below (Kd.N_elderB (by (with_reducible repeat (first | apply Kd.N_alloc | apply Kd.N_drewN | apply Kd.N_drew)); exact HO500.out) gb510 (Nat.le_of_eq hg.symm)) hb); have n1_ := Aside0.mk (Kd.R_below (by (with_reducible repeat (first | apply Kd.R_alloc | apply Kd.R_drewN | apply Kd.R_drew)); exact HO506.out) hb); have n2_ := Aside0.mk (Kd.N_below (Kd.N_elderB (by (with_reducible repeat (first | apply Kd.N_alloc | apply Kd.N_drewN | apply Kd.N_drew)); exact HO509.out) gb510 (Nat.le_of_eq hg.symm)) hb); have n3_ := Aside0.mk (below_step (by repeat (first | (with_reducible first | exact HB.out | apply below_alloc | apply pw_below_drewN | apply below_drew1) | exact HB.out)) hb); have n4_ := Aside0.mk (hbox); have n5_ := Aside0.mk ((by rw [hg]; exact (below_size (by repeat (first | (with_reducible first | exact HB.out | apply below_alloc | apply pw_below_drewN | apply below_drew1) | exact HB.out))) : w.heap.size ≤ gb510)); have n6_ := Aside0.mk ((by rw [hg]; exact (below_size (by repeat (first | (with_reducible first | exact HB.out | apply below_alloc | apply pw_below_drewN | apply below_drew1) | exact HB.out))) : w.heap.size ≤ gb510)); clear HO500; clear HO506; clear HO509; clear HB; have HO500 := n0_; have HO506 := n1_; have HO509 := n2_; have HB := n3_; have BK510 := n4_; have GW510 := n5_; have GE510 := n6_; clear n0_ n1_ n2_ n3_ n4_ n5_ n6_; clear hb hbox hg; have hcz116_0 : w115.cell? ⟨gb510, 0, none⟩ = some (.int .i64 0) := (blk_cell BK510.out 0).trans rfl; have hcz116_1 : w115.cell? ⟨gb510, 1, none⟩ = some (.int .i64 0) := (blk_cell BK510.out 1).trans rfl; have hcz116_2 : w115.cell? ⟨gb510, 2, none⟩ = some (.string (⟨#[]⟩ : ByteArray)) := (blk_cell BK510.out 2).trans rfl; have hcz116_3 : w115.cell? ⟨gb510, 3, none⟩ = some (.slice none 0 0) := (blk_cell BK510.out 3).trans rfl; have hcz116_4 : w115.cell? ⟨gb510, 4, none⟩ = some (.slice none 0 0) := (blk_cell BK510.out 4).trans rfl; have hfz116_0 := blk_frozen BK510.out 0; have hfz116_1 := blk_frozen BK510.out 1; have hfz116_2 := blk_frozen BK510.out 2; have hfz116_3 := blk_frozen BK510.out 3; have hfz116_4 := blk_frozen BK510.out 4; obtain ⟨Ao117, co117, eo117⟩ := Kd.R_slice HO506.out; subst eo117; obtain ⟨Ao118, co118, eo118⟩ := Kd.N_slice HO509.out; subst eo118))
    have n0_ : Aside0 (Kd.N k25 25 (((((w115.setCell ⟨gb510, 0, none⟩ (.int .i64 t501)).setCell ⟨gb510, 1, none⟩ (.int .i64 t502)).setCell ⟨gb510, 2, none⟩ (.string t503)).setCell ⟨gb510, 3, none⟩ (.slice Ao117 t504.length co117)).setCell ⟨gb510, 4, none⟩ (.slice Ao118 t507.length co118)) w.heap.size (fun k_ => some k_ ≠ (.slice Ao117 t504.length co117 : Value).ownBlock ∧ some k_ ≠ (.slice Ao118 t507.length co118 : Value).ownBlock ∧ k_ ≠ gb510) (.slice Ao113 y498.length co113) y498) := ⟨by (with_reducible repeat (first | apply Kd.N_alloc | apply Kd.N_drewN | apply Kd.N_drew)); exact Kd.N_mono (Kd.N_far (p := ⟨gb510, 4, none⟩) (Kd.N_far (p := ⟨gb510, 3, none⟩) (Kd.N_far (p := ⟨gb510, 2, none⟩) (Kd.N_far (p := ⟨gb510, 1, none⟩) (Kd.N_far (p := ⟨gb510, 0, none⟩) (Kd.N_mono HO500.out (fun k_ hk => (⟨hk, hk.2⟩ : _ ∧ k_ ≠ gb510))) (fun _ hk => hk.2) (.int .i64 t501)) (fun _ hk => hk.2) (.int .i64 t502)) (fun _ hk => hk.2) (.string t503)) (fun _ hk => hk.2) (.slice Ao117 t504.length co117)) (fun _ hk => hk.2) (.slice Ao118 t507.length co118)) (fun _ hk => ⟨hk.1.1.1.2, ⟨hk.1.1.2, hk.1.2⟩⟩)⟩
    have n1_ : Aside0 (Kd.R Kd.string 9 (((((w115.setCell ⟨gb510, 0, none⟩ (.int .i64 t501)).setCell ⟨gb510, 1, none⟩ (.int .i64 t502)).setCell ⟨gb510, 2, none⟩ (.string t503)).setCell ⟨gb510, 3, none⟩ (.slice Ao117 t504.length co117)).setCell ⟨gb510, 4, none⟩ (.slice Ao118 t507.length co118)) w.heap.size (fun _ => True) (.slice Ao117 t504.length co117) t504) := ⟨by (with_reducible repeat (first | apply Kd.R_alloc | apply Kd.R_drewN | apply Kd.R_drew)); exact Kd.R_mono (Kd.R_far (p := ⟨gb510, 4, none⟩) (Kd.R_far (p := ⟨gb510, 3, none⟩) (Kd.R_far (p := ⟨gb510, 2, none⟩) (Kd.R_far (p := ⟨gb510, 1, none⟩) (Kd.R_far (p := ⟨gb510, 0, none⟩) (Kd.R_types HO506.out BK510.out (by decide)) (fun _ hk => hk.2) (.int .i64 t501)) (fun _ hk => hk.2) (.int .i64 t502)) (fun _ hk => hk.2) (.string t503)) (fun _ hk => hk.2) (.slice Ao117 t504.length co117)) (fun _ hk => hk.2) (.slice Ao118 t507.length co118)) (fun _ hk => trivial)⟩
    have n2_ : Aside0 (Kd.N k25 25 (((((w115.setCell ⟨gb510, 0, none⟩ (.int .i64 t501)).setCell ⟨gb510, 1, none⟩ (.int .i64 t502)).setCell ⟨gb510, 2, none⟩ (.string t503)).setCell ⟨gb510, 3, none⟩ (.slice Ao117 t504.length co117)).setCell ⟨gb510, 4, none⟩ (.slice Ao118 t507.length co118)) w.heap.size (fun k_ => some k_ ≠ (.slice Ao117 t504.length co117 : Value).ownBlock ∧ k_ ≠ gb510) (.slice Ao118 t507.length co118) t507) := ⟨by (with_reducible repeat (first | apply Kd.N_alloc | apply Kd.N_drewN | apply Kd.N_drew)); exact Kd.N_mono (Kd.N_far (p := ⟨gb510, 4, none⟩) (Kd.N_far (p := ⟨gb510, 3, none⟩) (Kd.N_far (p := ⟨gb510, 2, none⟩) (Kd.N_far (p := ⟨gb510, 1, none⟩) (Kd.N_far (p := ⟨gb510, 0, none⟩) (Kd.N_mono HO509.out (fun k_ hk => (⟨hk, hk.2⟩ : _ ∧ k_ ≠ gb510))) (fun _ hk => hk.2) (.int .i64 t501)) (fun _ hk => hk.2) (.int .i64 t502)) (fun _ hk => hk.2) (.string t503)) (fun _ hk => hk.2) (.slice Ao117 t504.length co117)) (fun _ hk => hk.2) (.slice Ao118 t507.length co118)) (fun _ hk => ⟨hk.1.1, hk.1.2⟩)⟩
    have n3_ : Aside0 ((((((w115.setCell ⟨gb510, 0, none⟩ (.int .i64 t501)).setCell ⟨gb510, 1, none⟩ (.int .i64 t502)).setCell ⟨gb510, 2, none⟩ (.string t503)).setCell ⟨gb510, 3, none⟩ (.slice Ao117 t504.length co117)).setCell ⟨gb510, 4, none⟩ (.slice Ao118 t507.length co118)).heap[gb510]? = some (.cells #[.int .i64 t501, .int .i64 t502, .string t503, .slice Ao117 t504.length co117, .slice Ao118 t507.length co118] 25 (0, 0))) := ⟨by (with_reducible repeat (first | refine blk_drewN ?_ _ | refine blk_drew ?_ | refine blk_alloc ?_ _)); refine blk_put (cs := #[.int .i64 t501, .int .i64 t502, .string t503, .slice Ao117 t504.length co117, .slice none 0 0]) ?_ 4 _ rfl; (with_reducible repeat (first | refine blk_drewN ?_ _ | refine blk_drew ?_ | refine blk_alloc ?_ _)); refine blk_put (cs := #[.int .i64 t501, .int .i64 t502, .string t503, .slice none 0 0, .slice none 0 0]) ?_ 3 _ rfl; (with_reducible repeat (first | refine blk_drewN ?_ _ | refine blk_drew ?_ | refine blk_alloc ?_ _)); refine blk_put (cs := #[.int .i64 t501, .int .i64 t502, .string (⟨#[]⟩ : ByteArray), .slice none 0 0, .slice none 0 0]) ?_ 2 _ rfl; (with_reducible repeat (first | refine blk_drewN ?_ _ | refine blk_drew ?_ | refine blk_alloc ?_ _)); refine blk_put (cs := #[.int .i64 t501, .int .i64 0, .string (⟨#[]⟩ : ByteArray), .slice none 0 0, .slice none 0 0]) ?_ 1 _ rfl; (with_reducible repeat (first | refine blk_drewN ?_ _ | refine blk_drew ?_ | refine blk_alloc ?_ _)); refine blk_put (cs := #[.int .i64 0, .int .i64 0, .string (⟨#[]⟩ : ByteArray), .slice none 0 0, .slice none 0 0]) ?_ 0 _ rfl; (with_reducible repeat (first | refine blk_drewN ?_ _ | refine blk_drew ?_ | refine blk_alloc ?_ _)); exact BK510.out⟩
    have n4_ : Aside0 (Below w.heap.size w (((((w115.setCell ⟨gb510, 0, none⟩ (.int .i64 t501)).setCell ⟨gb510, 1, none⟩ (.int .i64 t502)).setCell ⟨gb510, 2, none⟩ (.string t503)).setCell ⟨gb510, 3, none⟩ (.slice Ao117 t504.length co117)).setCell ⟨gb510, 4, none⟩ (.slice Ao118 t507.length co118))) := ⟨by repeat (first | (with_reducible first | exact HB.out | apply below_alloc | apply pw_below_drewN | apply below_drew1 | refine below_set ?_ GE510.out) | exact HB.out)⟩
    (try clear HO500)
    (try clear HO506)
    (try clear HO509)
    (try clear BK510)
    (try clear HB)
    generalize (((((w115.setCell ⟨gb510, 0, none⟩ (.int .i64 t501)).setCell ⟨gb510, 1, none⟩ (.int .i64 t502)).setCell ⟨gb510, 2, none⟩ (.string t503)).setCell ⟨gb510, 3, none⟩ (.slice Ao117 t504.length co117)).setCell ⟨gb510, 4, none⟩ (.slice Ao118 t507.length co118)) = w119 at n0_ n1_ n2_ n3_ n4_ ⊢
    have HO500 := n0_
    have HO506 := n1_
    have HO509 := n2_
    have BK510 := n3_
    have HB := n4_
    clear n0_ n1_ n2_ n3_ n4_
    have n0_ := Aside0.mk (Kd.N_drew HO500.out)
    have n1_ := Aside0.mk (Kd.R_drew HO506.out)
    have n2_ := Aside0.mk (Kd.N_drew HO509.out)
    have n3_ := Aside0.mk (blk_drew BK510.out)
    have n4_ := Aside0.mk (below_drew1 HB.out)
    clear HO500
    clear HO506
    clear HO509
    clear BK510
    clear HB
    have HO500 := n0_
    have HO506 := n1_
    have HO509 := n2_
    have BK510 := n3_
    have HB := n4_
    clear n0_ n1_ n2_ n3_ n4_
    refine start_ (n := 10) (S := fun w' => w'.cell? ⟨gb510, 0, none⟩ = some (.int .i64 t501) ∧ w'.cell? ⟨gb510, 1, none⟩ = some (.int .i64 t502) ∧ w'.cell? ⟨gb510, 2, none⟩ = some (.string t503) ∧ w'.cell? ⟨gb510, 3, none⟩ = some (.slice Ao117 t504.length co117) ∧ w'.cell? ⟨gb510, 4, none⟩ = some (.slice Ao118 t507.length co118)) (ds := []) #[false, false, false, false, false, false, false, false, false, false] (by kernel_rfl) rfl rfl ⟨(blk_cell BK510.out 0).trans rfl, (blk_cell BK510.out 1).trans rfl, (blk_cell BK510.out 2).trans rfl, (blk_cell BK510.out 3).trans rfl, (blk_cell BK510.out 4).trans rfl⟩ (fun hHeld => ?_); refine with_tabW sealringlaw29_lives.tab2 sealringlaw29_lives.bits2 (fun HT_ HW_ => ?_)
    generalize w119.drew = w120 at HO500 HO506 HO509 BK510 HB hHeld ⊢
    refine take_ (i := 0) (N := some 11) (v := ?_) (a' := ?_) #[true, false, false, false, false, false, false, false, false, false] rfl rfl (take_ofW HT_.out HW_.out (by kernel_rfl)) (fun _ _ _ h => h) (Or.inl ⟨by rfl, ?_⟩) hHeld ?_ ?_
    rotate_left
    · rintro w' ⟨s0, s1, s2, s3, s4⟩
      go_simp
      with_reducible rfl
    rotate_left
    · simp only [Act.put, List.setIfInBounds_toArray, List.set_cons_zero, List.set_cons_succ, i64_w, i32_w]
      rfl
    refine one_ (i := 1) (N := some 12) #[true, true, false, false, false, false, false, false, false, false] rfl rfl (one_of HT_.out (by kernel_rfl)) (by decide) (fun K hK => ?_)
    refine Kd.R_lit_step Kd.string _ 9 ?hg (N := 12) ?hd (xs := ([(⟨#[97]⟩ : ByteArray)] : List ByteArray)) (inner := [.string (⟨#[97]⟩ : ByteArray)]) (ok := fun _ => True) (okp := fun _ => True) ?hr ?hp (fun _ hk => hk) trivial (Below.refl _ _) (Nat.le_refl _) (by simp) ?_; (case hd => rfl); (case hg => rfl); (case hr => first | (go_simp; done) | (go_simp; rfl)); (case hp => exact (Reps.one (show Kd.M Kd.string _ _ _ (⟨#[97]⟩ : ByteArray) [.string (⟨#[97]⟩ : ByteArray)] from rfl) (Reps.none _ _)))
    intro v512 w121 ho122 hb hg_ hnew_
    clear hg_ hnew_
    (first | rw [← Ny511.out] at ho122 | (simp only [Int.reduceToNat] at ho122; rw [← Ny511.out] at ho122))
    have n0_ := Aside0.mk (Kd.N_elder' (by (with_reducible repeat (first | apply Kd.N_alloc | apply Kd.N_drewN | apply Kd.N_drew)); exact HO500.out) (Kd.R_base ho122) hb)
    have n1_ := Aside0.mk (Kd.R_elder' (by (with_reducible repeat (first | apply Kd.R_alloc | apply Kd.R_drewN | apply Kd.R_drew)); exact HO506.out) (Kd.R_base ho122) hb)
    have n2_ := Aside0.mk (Kd.N_elder' (by (with_reducible repeat (first | apply Kd.N_alloc | apply Kd.N_drewN | apply Kd.N_drew)); exact HO509.out) (Kd.R_base ho122) hb)
    have n3_ := Aside0.mk (Kd.R_lower (Kd.R_new' ho122 (Kd.R_lt (by (with_reducible repeat (first | apply Kd.R_alloc | apply Kd.R_drewN | apply Kd.R_drew)); exact HO506.out))) (below_size (by repeat (first | (with_reducible first | exact HB.out | apply below_alloc | apply pw_below_drewN | apply below_drew1 | refine below_set ?_ GE510.out) | exact HB.out))))
    have n4_ := Aside0.mk (blk_below (g := gb510) (o := .cells #[.int .i64 t501, .int .i64 t502, .string t503, .slice Ao117 t504.length co117, .slice Ao118 t507.length co118] 25 (0, 0)) (by (with_reducible repeat (first | refine blk_drewN ?_ _ | refine blk_drew ?_ | refine blk_alloc ?_ _)); exact BK510.out) hb)
    have n5_ := Aside0.mk (below_step (by repeat (first | (with_reducible first | exact HB.out | apply below_alloc | apply pw_below_drewN | apply below_drew1 | refine below_set ?_ GE510.out) | exact HB.out)) hb)
    clear HO500
    clear HO506
    clear HO509
    clear BK510
    clear HB
    have HO500 := n0_
    have HO506 := n1_
    have HO509 := n2_
    have HO513 := n3_
    have BK510 := n4_
    have HB := n5_
    clear n0_ n1_ n2_ n3_ n4_ n5_
    clear hb ho122
    obtain ⟨Ao123, co123, eo123⟩ := Kd.R_slice HO513.out
    (first | subst eo123 | (injection eo123 with f1_ f2_ f3_; have f4_ := f1_.symm; have f5_ := f3_.symm; clear f1_ f2_ f3_; subst f4_; subst f5_))
    refine hK.out _ _ ⟨(blk_cell BK510.out 0).trans rfl, (blk_cell BK510.out 1).trans rfl, (blk_cell BK510.out 2).trans rfl, (blk_cell BK510.out 3).trans rfl, (blk_cell BK510.out 4).trans rfl⟩ (fun hHeld => ?_)
    clear hK K
    refine norm_ (a' := ?_) ?_ ?_
    rotate_left
    · show Act.put _ (some 12) _ = _
      simp only [Act.put, List.setIfInBounds_toArray, List.set_cons_zero, List.set_cons_succ, i64_w, i32_w]
      rfl
    refine one_ (i := 2) (N := some 13) #[true, true, true, false, false, false, false, false, false, false] rfl rfl (one_of HT_.out (by kernel_rfl)) (by decide) (fun K hK => ?_)
    refine goes_ Try.func27 (by kernel_rfl) rfl #[.int .i64 4, .slice Ao123 y511.length co123] (by rfl) rfl rfl (by (try simp only [List.map_toArray, List.map_cons, List.map_nil]); first | done | rfl | (simp only [List.length_drop, List.length_take]; rfl)) ?_
    with_reducible refine (field_May.calls k 4 _ _ y511 t514 _ ?side1 ?side2 A4.out).mono ?_
    (case side1 => repeat (first | exact (Kd.R_reads' HO513.out).2.2 | (with_reducible refine Kd.C_alloc ?_ _) | (with_reducible refine Kd.C_drewN ?_ _) | (with_reducible refine Kd.C_drew ?_)))
    (case side2 => exact (Kd.R_reads' HO513.out).2.1)
    rintro e w124 ⟨v515, rfl, ho0, hb⟩
    refine ⟨_, rfl, ?_⟩
    have n0_ := Aside0.mk (Kd.N_elder' (by (with_reducible repeat (first | apply Kd.N_alloc | apply Kd.N_drewN | apply Kd.N_drew)); exact HO500.out) (Kd.R_base ho0) hb)
    have n1_ := Aside0.mk (Kd.R_below (by (with_reducible repeat (first | apply Kd.R_alloc | apply Kd.R_drewN | apply Kd.R_drew)); exact HO506.out) hb)
    have n2_ := Aside0.mk (Kd.N_elder' (by (with_reducible repeat (first | apply Kd.N_alloc | apply Kd.N_drewN | apply Kd.N_drew)); exact HO509.out) (Kd.R_base ho0) hb)
    have n3_ := Aside0.mk (Kd.R_below (by (with_reducible repeat (first | apply Kd.R_alloc | apply Kd.R_drewN | apply Kd.R_drew)); exact HO513.out) hb)
    have n4_ := Aside0.mk (Kd.R_lower ho0 (below_size (by repeat (first | (with_reducible first | exact HB.out | apply below_alloc | apply pw_below_drewN | apply below_drew1 | refine below_set ?_ GE510.out) | exact HB.out))))
    have n5_ := Aside0.mk (blk_below (g := gb510) (o := .cells #[.int .i64 t501, .int .i64 t502, .string t503, .slice Ao117 t504.length co117, .slice Ao118 t507.length co118] 25 (0, 0)) (by (with_reducible repeat (first | refine blk_drewN ?_ _ | refine blk_drew ?_ | refine blk_alloc ?_ _)); exact BK510.out) hb)
    have n6_ := Aside0.mk (below_step (by repeat (first | (with_reducible first | exact HB.out | apply below_alloc | apply pw_below_drewN | apply below_drew1 | refine below_set ?_ GE510.out) | exact HB.out)) hb)
    clear HO500
    clear HO506
    clear HO509
    clear HO513
    clear BK510
    clear HB
    have HO500 := n0_
    have HO506 := n1_
    have HO509 := n2_
    have HO513 := n3_
    have HO516 := n4_
    have BK510 := n5_
    have HB := n6_
    clear n0_ n1_ n2_ n3_ n4_ n5_ n6_
    (try clear hb)
    (try clear hb2)
    (try clear hk)
    (try clear hi)
    (try clear ho0)
    obtain ⟨Ao125, co125, eo125⟩ := Kd.R_slice HO516.out
    (first | subst eo125 | (injection eo125 with f1_ f2_ f3_; have f4_ := f1_.symm; have f5_ := f3_.symm; clear f1_ f2_ f3_; subst f4_; subst f5_))
    refine hK.out _ _ ⟨(blk_cell BK510.out 0).trans rfl, (blk_cell BK510.out 1).trans rfl, (blk_cell BK510.out 2).trans rfl, (blk_cell BK510.out 3).trans rfl, (blk_cell BK510.out 4).trans rfl⟩ (fun hHeld => ?_)
    clear hK K
    refine norm_ (a' := ?_) ?_ ?_
    rotate_left
    · show Act.put _ (some 13) _ = _
      simp only [Act.put, List.setIfInBounds_toArray, List.set_cons_zero, List.set_cons_succ, i64_w, i32_w]
      rfl
    refine one_ (i := 3) (N := some 14) #[true, true, true, true, false, false, false, false, false, false] rfl rfl (one_of HT_.out (by kernel_rfl)) (by decide) (fun K hK => ?_)
    refine goes_ Try.func28 (by kernel_rfl) rfl #[.int .i64 1, .slice Ao125 t514.length co125] (by rfl) rfl rfl (by (try simp only [List.map_toArray, List.map_cons, List.map_nil]); first | done | rfl | (simp only [List.length_drop, List.length_take]; rfl)) ?_
    with_reducible refine (field_Most.calls 1 _ _ t514 t517 _ ?side1 ?side2 A5.out).mono ?_
    (case side1 => repeat (first | exact (Kd.R_reads' HO516.out).2.2 | (with_reducible refine Kd.C_alloc ?_ _) | (with_reducible refine Kd.C_drewN ?_ _) | (with_reducible refine Kd.C_drew ?_)))
    (case side2 => exact (Kd.R_reads' HO516.out).2.1)
    rintro e w126 ⟨v518, rfl, ho0, hb⟩
    refine ⟨_, rfl, ?_⟩
    have n0_ := Aside0.mk (Kd.N_elder' (by (with_reducible repeat (first | apply Kd.N_alloc | apply Kd.N_drewN | apply Kd.N_drew)); exact HO500.out) (Kd.R_base ho0) hb)
    have n1_ := Aside0.mk (Kd.R_below (by (with_reducible repeat (first | apply Kd.R_alloc | apply Kd.R_drewN | apply Kd.R_drew)); exact HO506.out) hb)
    have n2_ := Aside0.mk (Kd.N_elder' (by (with_reducible repeat (first | apply Kd.N_alloc | apply Kd.N_drewN | apply Kd.N_drew)); exact HO509.out) (Kd.R_base ho0) hb)
    have n3_ := Aside0.mk (Kd.R_below (by (with_reducible repeat (first | apply Kd.R_alloc | apply Kd.R_drewN | apply Kd.R_drew)); exact HO513.out) hb)
    have n4_ := Aside0.mk (Kd.R_elder' (by (with_reducible repeat (first | apply Kd.R_alloc | apply Kd.R_drewN | apply Kd.R_drew)); exact HO516.out) (Kd.R_base ho0) hb)
    have n5_ := Aside0.mk (Kd.R_lower (Kd.R_new' ho0 (Kd.R_lt (by (with_reducible repeat (first | apply Kd.R_alloc | apply Kd.R_drewN | apply Kd.R_drew)); exact HO516.out))) (below_size (by repeat (first | (with_reducible first | exact HB.out | apply below_alloc | apply pw_below_drewN | apply below_drew1 | refine below_set ?_ GE510.out) | exact HB.out))))
    have n6_ := Aside0.mk (blk_below (g := gb510) (o := .cells #[.int .i64 t501, .int .i64 t502, .string t503, .slice Ao117 t504.length co117, .slice Ao118 t507.length co118] 25 (0, 0)) (by (with_reducible repeat (first | refine blk_drewN ?_ _ | refine blk_drew ?_ | refine blk_alloc ?_ _)); exact BK510.out) hb)
    have n7_ := Aside0.mk (below_step (by repeat (first | (with_reducible first | exact HB.out | apply below_alloc | apply pw_below_drewN | apply below_drew1 | refine below_set ?_ GE510.out) | exact HB.out)) hb)
    clear HO500
    clear HO506
    clear HO509
    clear HO513
    clear HO516
    clear BK510
    clear HB
    have HO500 := n0_
    have HO506 := n1_
    have HO509 := n2_
    have HO513 := n3_
    have HO516 := n4_
    have HO519 := n5_
    have BK510 := n6_
    have HB := n7_
    clear n0_ n1_ n2_ n3_ n4_ n5_ n6_ n7_
    (try clear hb)
    (try clear hb2)
    (try clear hk)
    (try clear hi)
    (try clear ho0)
    obtain ⟨Ao127, co127, eo127⟩ := Kd.R_slice HO519.out
    (first | subst eo127 | (injection eo127 with f1_ f2_ f3_; have f4_ := f1_.symm; have f5_ := f3_.symm; clear f1_ f2_ f3_; subst f4_; subst f5_))
    refine hK.out _ _ ⟨(blk_cell BK510.out 0).trans rfl, (blk_cell BK510.out 1).trans rfl, (blk_cell BK510.out 2).trans rfl, (blk_cell BK510.out 3).trans rfl, (blk_cell BK510.out 4).trans rfl⟩ (fun hHeld => ?_)
    clear hK K
    refine norm_ (a' := ?_) ?_ ?_
    rotate_left
    · show Act.put _ (some 14) _ = _
      simp only [Act.put, List.setIfInBounds_toArray, List.set_cons_zero, List.set_cons_succ, i64_w, i32_w]
      rfl
    refine one_ (i := 4) (N := some 15) #[true, true, true, true, true, false, false, false, false, false] rfl rfl (one_of HT_.out (by kernel_rfl)) (by decide) (fun K hK => ?_)
    refine goes_ Try.func30 (by kernel_rfl) rfl #[.agg #[.int .i64 t501, .int .i64 t502, .string t503, .slice Ao117 t504.length co117, .slice Ao118 t507.length co118], .slice Ao127 t517.length co127] (by rfl) rfl rfl (by (try simp only [List.map_toArray, List.map_cons, List.map_nil]); first | done | rfl | (simp only [List.length_drop, List.length_take]; rfl)) ?_
    with_reducible refine (field_Check.calls k t501 t502 t503 _ _ t504 _ _ t507 _ _ t517 t520 t521 _ ?side1 ?side2 ?side3 ?side4 ?side5 ?side6 A6.out).mono ?_
    (case side1 => repeat (first | exact (Kd.R_reads' HO506.out).2.2 | (with_reducible refine Kd.C_alloc ?_ _) | (with_reducible refine Kd.C_drewN ?_ _) | (with_reducible refine Kd.C_drew ?_)))
    (case side2 => exact (Kd.R_reads' HO506.out).2.1)
    (case side3 => repeat (first | exact (Kd.N_reads' HO509.out).2.2 | (with_reducible refine Kd.C_alloc ?_ _) | (with_reducible refine Kd.C_drewN ?_ _) | (with_reducible refine Kd.C_drew ?_)))
    (case side4 => exact (Kd.N_reads' HO509.out).2.1)
    (case side5 => repeat (first | exact (Kd.R_reads' HO519.out).2.2 | (with_reducible refine Kd.C_alloc ?_ _) | (with_reducible refine Kd.C_drewN ?_ _) | (with_reducible refine Kd.C_drew ?_)))
    (case side6 => exact (Kd.R_reads' HO519.out).2.1)
    rintro e w128 ⟨rfl, hb⟩
    refine ⟨_, rfl, ?_⟩
    have n0_ := Aside0.mk (Kd.N_below (by (with_reducible repeat (first | apply Kd.N_alloc | apply Kd.N_drewN | apply Kd.N_drew)); exact HO500.out) hb)
    have n1_ := Aside0.mk (Kd.R_below (by (with_reducible repeat (first | apply Kd.R_alloc | apply Kd.R_drewN | apply Kd.R_drew)); exact HO506.out) hb)
    have n2_ := Aside0.mk (Kd.N_below (by (with_reducible repeat (first | apply Kd.N_alloc | apply Kd.N_drewN | apply Kd.N_drew)); exact HO509.out) hb)
    have n3_ := Aside0.mk (Kd.R_below (by (with_reducible repeat (first | apply Kd.R_alloc | apply Kd.R_drewN | apply Kd.R_drew)); exact HO513.out) hb)
    have n4_ := Aside0.mk (Kd.R_below (by (with_reducible repeat (first | apply Kd.R_alloc | apply Kd.R_drewN | apply Kd.R_drew)); exact HO516.out) hb)
    have n5_ := Aside0.mk (Kd.R_below (by (with_reducible repeat (first | apply Kd.R_alloc | apply Kd.R_drewN | apply Kd.R_drew)); exact HO519.out) hb)
    have n6_ := Aside0.mk (blk_below (g := gb510) (o := .cells #[.int .i64 t501, .int .i64 t502, .string t503, .slice Ao117 t504.length co117, .slice Ao118 t507.length co118] 25 (0, 0)) (by (with_reducible repeat (first | refine blk_drewN ?_ _ | refine blk_drew ?_ | refine blk_alloc ?_ _)); exact BK510.out) hb)
    have n7_ := Aside0.mk (below_step (by repeat (first | (with_reducible first | exact HB.out | apply below_alloc | apply pw_below_drewN | apply below_drew1 | refine below_set ?_ GE510.out) | exact HB.out)) hb)
    clear HO500
    clear HO506
    clear HO509
    clear HO513
    clear HO516
    clear HO519
    clear BK510
    clear HB
    have HO500 := n0_
    have HO506 := n1_
    have HO509 := n2_
    have HO513 := n3_
    have HO516 := n4_
    have HO519 := n5_
    have BK510 := n6_
    have HB := n7_
    clear n0_ n1_ n2_ n3_ n4_ n5_ n6_ n7_
    (try clear hb)
    (try clear hb2)
    (try clear hk)
    (try clear hi)
    refine hK.out _ _ ⟨(blk_cell BK510.out 0).trans rfl, (blk_cell BK510.out 1).trans rfl, (blk_cell BK510.out 2).trans rfl, (blk_cell BK510.out 3).trans rfl, (blk_cell BK510.out 4).trans rfl⟩ (fun hHeld => ?_)
    clear hK K
    refine norm_ (a' := ?_) ?_ ?_
    rotate_left
    · show Act.put _ (some 15) _ = _
      simp only [Act.put, List.setIfInBounds_toArray, List.set_cons_zero, List.set_cons_succ, i64_w, i32_w]
      rfl
    refine pure_ (i := 5) (N := some 10) (v := ?_) (a' := ?_) #[true, true, true, true, true, true, false, false, false, false] rfl rfl (any_of HT_.out (by kernel_rfl)) (fun _ _ _ h => h) (Or.inl ⟨by rfl, ?_⟩) ?_ ?_
    rotate_left
    · intro w'
      go_simp
      with_reducible rfl
    rotate_left
    · simp only [Act.put, List.setIfInBounds_toArray, List.set_cons_zero, List.set_cons_succ, i64_w, i32_w]
      rfl
    refine pure_ (i := 6) (N := some 16) (v := ?_) (a' := ?_) #[true, true, true, true, true, true, true, false, false, false] rfl rfl (any_of HT_.out (by kernel_rfl)) (fun _ _ _ h => h) (Or.inl ⟨by rfl, ?_⟩) ?_ ?_
    rotate_left
    · intro w'
      go_simp
      with_reducible rfl
    rotate_left
    · simp only [Act.put, List.setIfInBounds_toArray, List.set_cons_zero, List.set_cons_succ, i64_w, i32_w]
      rfl
    refine pure_ (i := 7) (N := some 17) (v := ?_) (a' := ?_) #[true, true, true, true, true, true, true, true, false, false] rfl rfl (any_of HT_.out (by kernel_rfl)) (fun _ _ _ h => h) (Or.inl ⟨by rfl, ?_⟩) ?_ ?_
    rotate_left
    · intro w'
      go_simp
      with_reducible rfl
    rotate_left
    · simp only [Act.put, List.setIfInBounds_toArray, List.set_cons_zero, List.set_cons_succ, i64_w, i32_w]
      rfl
    refine pure_ (i := 8) (N := some 2) (v := ?_) (a' := ?_) #[true, true, true, true, true, true, true, true, true, false] rfl rfl (any_of HT_.out (by kernel_rfl)) (fun _ _ _ h => h) (Or.inl ⟨by rfl, ?_⟩) ?_ ?_
    rotate_left
    · intro w'
      go_simp
      with_reducible rfl
    rotate_left
    · simp only [Act.put, List.setIfInBounds_toArray, List.set_cons_zero, List.set_cons_succ, i64_w, i32_w]
      rfl
    refine pure_ (i := 9) (N := some 3) (v := ?_) (a' := ?_) #[true, true, true, true, true, true, true, true, true, true] rfl rfl (any_of HT_.out (by kernel_rfl)) (fun _ _ _ h => h) (Or.inl ⟨by rfl, ?_⟩) ?_ ?_
    rotate_left
    · intro w'
      go_simp
      with_reducible rfl
    rotate_left
    · simp only [Act.put, List.setIfInBounds_toArray, List.set_cons_zero, List.set_cons_succ, i64_w, i32_w]
      rfl
    refine done_ (done_of HT_.out (by kernel_rfl)) ?_
    try go_wp2
    have n0_ := Aside0.mk (Kd.N_drew HO500.out)
    have n1_ := Aside0.mk (Kd.R_drew HO506.out)
    have n2_ := Aside0.mk (Kd.N_drew HO509.out)
    have n3_ := Aside0.mk (Kd.R_drew HO513.out)
    have n4_ := Aside0.mk (Kd.R_drew HO516.out)
    have n5_ := Aside0.mk (Kd.R_drew HO519.out)
    have n6_ := Aside0.mk (blk_drew BK510.out)
    have n7_ := Aside0.mk (below_drew1 HB.out)
    clear HO500
    clear HO506
    clear HO509
    clear HO513
    clear HO516
    clear HO519
    clear BK510
    clear HB
    have HO500 := n0_
    have HO506 := n1_
    have HO509 := n2_
    have HO513 := n3_
    have HO516 := n4_
    have HO519 := n5_
    have BK510 := n6_
    have HB := n7_
    clear n0_ n1_ n2_ n3_ n4_ n5_ n6_ n7_
    refine start_ (n := 9) (S := fun w' => w'.cell? ⟨gb510, 0, none⟩ = some (.int .i64 t501) ∧ w'.cell? ⟨gb510, 1, none⟩ = some (.int .i64 t502) ∧ w'.cell? ⟨gb510, 2, none⟩ = some (.string t503) ∧ w'.cell? ⟨gb510, 3, none⟩ = some (.slice Ao117 t504.length co117) ∧ w'.cell? ⟨gb510, 4, none⟩ = some (.slice Ao118 t507.length co118)) (ds := []) #[false, false, false, false, false, false, false, false, false] (by kernel_rfl) rfl rfl ⟨(blk_cell BK510.out 0).trans rfl, (blk_cell BK510.out 1).trans rfl, (blk_cell BK510.out 2).trans rfl, (blk_cell BK510.out 3).trans rfl, (blk_cell BK510.out 4).trans rfl⟩ (fun hHeld => ?_); refine with_tabW sealringlaw29_lives.tab3 sealringlaw29_lives.bits3 (fun HT_ HW_ => ?_)
    generalize w128.drew = w129 at HO500 HO506 HO509 HO513 HO516 HO519 BK510 HB hHeld ⊢
    refine take_ (i := 0) (N := some 19) (v := ?_) (a' := ?_) #[true, false, false, false, false, false, false, false, false] rfl rfl (take_ofW HT_.out HW_.out (by kernel_rfl)) (fun _ _ _ h => h) (Or.inl ⟨by rfl, ?_⟩) hHeld ?_ ?_
    rotate_left
    · rintro w' ⟨s0, s1, s2, s3, s4⟩
      go_simp
      with_reducible rfl
    rotate_left
    · simp only [Act.put, List.setIfInBounds_toArray, List.set_cons_zero, List.set_cons_succ, i64_w, i32_w]
      rfl
    refine one_ (i := 1) (N := some 20) #[true, true, false, false, false, false, false, false, false] rfl rfl (one_of HT_.out (by kernel_rfl)) (by decide) (fun K hK => ?_)
    refine Kd.R_lit_step Kd.string _ 9 ?hg (N := 20) ?hd (xs := ([(⟨#[98]⟩ : ByteArray)] : List ByteArray)) (inner := [.string (⟨#[98]⟩ : ByteArray)]) (ok := fun _ => True) (okp := fun _ => True) ?hr ?hp (fun _ hk => hk) trivial (Below.refl _ _) (Nat.le_refl _) (by simp) ?_; (case hd => rfl); (case hg => rfl); (case hr => first | (go_simp; done) | (go_simp; rfl)); (case hp => exact (Reps.one (show Kd.M Kd.string _ _ _ (⟨#[98]⟩ : ByteArray) [.string (⟨#[98]⟩ : ByteArray)] from rfl) (Reps.none _ _)))
    intro v523 w130 ho131 hb hg_ hnew_
    clear hg_ hnew_
    (first | rw [← Ny522.out] at ho131 | (simp only [Int.reduceToNat] at ho131; rw [← Ny522.out] at ho131))
    have n0_ := Aside0.mk (Kd.N_elder' (by (with_reducible repeat (first | apply Kd.N_alloc | apply Kd.N_drewN | apply Kd.N_drew)); exact HO500.out) (Kd.R_base ho131) hb)
    have n1_ := Aside0.mk (Kd.R_elder' (by (with_reducible repeat (first | apply Kd.R_alloc | apply Kd.R_drewN | apply Kd.R_drew)); exact HO506.out) (Kd.R_base ho131) hb)
    have n2_ := Aside0.mk (Kd.N_elder' (by (with_reducible repeat (first | apply Kd.N_alloc | apply Kd.N_drewN | apply Kd.N_drew)); exact HO509.out) (Kd.R_base ho131) hb)
    have n3_ := Aside0.mk (Kd.R_elder' (by (with_reducible repeat (first | apply Kd.R_alloc | apply Kd.R_drewN | apply Kd.R_drew)); exact HO513.out) (Kd.R_base ho131) hb)
    have n4_ := Aside0.mk (Kd.R_below (by (with_reducible repeat (first | apply Kd.R_alloc | apply Kd.R_drewN | apply Kd.R_drew)); exact HO516.out) hb)
    have n5_ := Aside0.mk (Kd.R_below (by (with_reducible repeat (first | apply Kd.R_alloc | apply Kd.R_drewN | apply Kd.R_drew)); exact HO519.out) hb)
    have n6_ := Aside0.mk (Kd.R_lower (Kd.R_new' (Kd.R_new' ho131 (Kd.R_lt (by (with_reducible repeat (first | apply Kd.R_alloc | apply Kd.R_drewN | apply Kd.R_drew)); exact HO506.out))) (Kd.R_lt (by (with_reducible repeat (first | apply Kd.R_alloc | apply Kd.R_drewN | apply Kd.R_drew)); exact HO513.out))) (below_size (by repeat (first | (with_reducible first | exact HB.out | apply below_alloc | apply pw_below_drewN | apply below_drew1 | refine below_set ?_ GE510.out) | exact HB.out))))
    have n7_ := Aside0.mk (blk_below (g := gb510) (o := .cells #[.int .i64 t501, .int .i64 t502, .string t503, .slice Ao117 t504.length co117, .slice Ao118 t507.length co118] 25 (0, 0)) (by (with_reducible repeat (first | refine blk_drewN ?_ _ | refine blk_drew ?_ | refine blk_alloc ?_ _)); exact BK510.out) hb)
    have n8_ := Aside0.mk (below_step (by repeat (first | (with_reducible first | exact HB.out | apply below_alloc | apply pw_below_drewN | apply below_drew1 | refine below_set ?_ GE510.out) | exact HB.out)) hb)
    clear HO500
    clear HO506
    clear HO509
    clear HO513
    clear HO516
    clear HO519
    clear BK510
    clear HB
    have HO500 := n0_
    have HO506 := n1_
    have HO509 := n2_
    have HO513 := n3_
    have HO516 := n4_
    have HO519 := n5_
    have HO524 := n6_
    have BK510 := n7_
    have HB := n8_
    clear n0_ n1_ n2_ n3_ n4_ n5_ n6_ n7_ n8_
    clear hb ho131
    obtain ⟨Ao132, co132, eo132⟩ := Kd.R_slice HO524.out
    (first | subst eo132 | (injection eo132 with f1_ f2_ f3_; have f4_ := f1_.symm; have f5_ := f3_.symm; clear f1_ f2_ f3_; subst f4_; subst f5_))
    refine hK.out _ _ ⟨(blk_cell BK510.out 0).trans rfl, (blk_cell BK510.out 1).trans rfl, (blk_cell BK510.out 2).trans rfl, (blk_cell BK510.out 3).trans rfl, (blk_cell BK510.out 4).trans rfl⟩ (fun hHeld => ?_)
    clear hK K
    refine norm_ (a' := ?_) ?_ ?_
    rotate_left
    · show Act.put _ (some 20) _ = _
      simp only [Act.put, List.setIfInBounds_toArray, List.set_cons_zero, List.set_cons_succ, i64_w, i32_w]
      rfl
    refine one_ (i := 2) (N := some 21) #[true, true, true, false, false, false, false, false, false] rfl rfl (one_of HT_.out (by kernel_rfl)) (by decide) (fun K hK => ?_)
    refine goes_ Try.func26 (by kernel_rfl) rfl #[.int .i64 0, .slice Ao132 y522.length co132] (by rfl) rfl rfl (by (try simp only [List.map_toArray, List.map_cons, List.map_nil]); first | done | rfl | (simp only [List.length_drop, List.length_take]; rfl)) ?_
    with_reducible refine (field_Must.calls k 0 _ _ y522 t525 _ ?side1 ?side2 A7.out).mono ?_
    (case side1 => repeat (first | exact (Kd.R_reads' HO524.out).2.2 | (with_reducible refine Kd.C_alloc ?_ _) | (with_reducible refine Kd.C_drewN ?_ _) | (with_reducible refine Kd.C_drew ?_)))
    (case side2 => exact (Kd.R_reads' HO524.out).2.1)
    rintro e w133 ⟨v526, rfl, ho0, hb⟩
    refine ⟨_, rfl, ?_⟩
    have n0_ := Aside0.mk (Kd.N_elder' (by (with_reducible repeat (first | apply Kd.N_alloc | apply Kd.N_drewN | apply Kd.N_drew)); exact HO500.out) (Kd.R_base ho0) hb)
    have n1_ := Aside0.mk (Kd.R_below (by (with_reducible repeat (first | apply Kd.R_alloc | apply Kd.R_drewN | apply Kd.R_drew)); exact HO506.out) hb)
    have n2_ := Aside0.mk (Kd.N_elder' (by (with_reducible repeat (first | apply Kd.N_alloc | apply Kd.N_drewN | apply Kd.N_drew)); exact HO509.out) (Kd.R_base ho0) hb)
    have n3_ := Aside0.mk (Kd.R_below (by (with_reducible repeat (first | apply Kd.R_alloc | apply Kd.R_drewN | apply Kd.R_drew)); exact HO513.out) hb)
    have n4_ := Aside0.mk (Kd.R_elder' (by (with_reducible repeat (first | apply Kd.R_alloc | apply Kd.R_drewN | apply Kd.R_drew)); exact HO516.out) (Kd.R_base ho0) hb)
    have n5_ := Aside0.mk (Kd.R_elder' (by (with_reducible repeat (first | apply Kd.R_alloc | apply Kd.R_drewN | apply Kd.R_drew)); exact HO519.out) (Kd.R_base ho0) hb)
    have n6_ := Aside0.mk (Kd.R_below (by (with_reducible repeat (first | apply Kd.R_alloc | apply Kd.R_drewN | apply Kd.R_drew)); exact HO524.out) hb)
    have n7_ := Aside0.mk (Kd.R_lower (Kd.R_new' (Kd.R_new' ho0 (Kd.R_lt (by (with_reducible repeat (first | apply Kd.R_alloc | apply Kd.R_drewN | apply Kd.R_drew)); exact HO516.out))) (Kd.R_lt (by (with_reducible repeat (first | apply Kd.R_alloc | apply Kd.R_drewN | apply Kd.R_drew)); exact HO519.out))) (below_size (by repeat (first | (with_reducible first | exact HB.out | apply below_alloc | apply pw_below_drewN | apply below_drew1 | refine below_set ?_ GE510.out) | exact HB.out))))
    have n8_ := Aside0.mk (blk_below (g := gb510) (o := .cells #[.int .i64 t501, .int .i64 t502, .string t503, .slice Ao117 t504.length co117, .slice Ao118 t507.length co118] 25 (0, 0)) (by (with_reducible repeat (first | refine blk_drewN ?_ _ | refine blk_drew ?_ | refine blk_alloc ?_ _)); exact BK510.out) hb)
    have n9_ := Aside0.mk (below_step (by repeat (first | (with_reducible first | exact HB.out | apply below_alloc | apply pw_below_drewN | apply below_drew1 | refine below_set ?_ GE510.out) | exact HB.out)) hb)
    clear HO500
    clear HO506
    clear HO509
    clear HO513
    clear HO516
    clear HO519
    clear HO524
    clear BK510
    clear HB
    have HO500 := n0_
    have HO506 := n1_
    have HO509 := n2_
    have HO513 := n3_
    have HO516 := n4_
    have HO519 := n5_
    have HO524 := n6_
    have HO527 := n7_
    have BK510 := n8_
    have HB := n9_
    clear n0_ n1_ n2_ n3_ n4_ n5_ n6_ n7_ n8_ n9_
    (try clear hb)
    (try clear hb2)
    (try clear hk)
    (try clear hi)
    (try clear ho0)
    obtain ⟨Ao134, co134, eo134⟩ := Kd.R_slice HO527.out
    (first | subst eo134 | (injection eo134 with f1_ f2_ f3_; have f4_ := f1_.symm; have f5_ := f3_.symm; clear f1_ f2_ f3_; subst f4_; subst f5_))
    refine hK.out _ _ ⟨(blk_cell BK510.out 0).trans rfl, (blk_cell BK510.out 1).trans rfl, (blk_cell BK510.out 2).trans rfl, (blk_cell BK510.out 3).trans rfl, (blk_cell BK510.out 4).trans rfl⟩ (fun hHeld => ?_)
    clear hK K
    refine norm_ (a' := ?_) ?_ ?_
    rotate_left
    · show Act.put _ (some 21) _ = _
      simp only [Act.put, List.setIfInBounds_toArray, List.set_cons_zero, List.set_cons_succ, i64_w, i32_w]
      rfl
    refine one_ (i := 3) (N := some 22) #[true, true, true, true, false, false, false, false, false] rfl rfl (one_of HT_.out (by kernel_rfl)) (by decide) (fun K hK => ?_)
    refine goes_ Try.func30 (by kernel_rfl) rfl #[.agg #[.int .i64 t501, .int .i64 t502, .string t503, .slice Ao117 t504.length co117, .slice Ao118 t507.length co118], .slice Ao134 t525.length co134] (by rfl) rfl rfl (by (try simp only [List.map_toArray, List.map_cons, List.map_nil]); first | done | rfl | (simp only [List.length_drop, List.length_take]; rfl)) ?_
    with_reducible refine (field_Check.calls k t501 t502 t503 _ _ t504 _ _ t507 _ _ t525 t528 t529 _ ?side1 ?side2 ?side3 ?side4 ?side5 ?side6 A8.out).mono ?_
    (case side1 => repeat (first | exact (Kd.R_reads' HO506.out).2.2 | (with_reducible refine Kd.C_alloc ?_ _) | (with_reducible refine Kd.C_drewN ?_ _) | (with_reducible refine Kd.C_drew ?_)))
    (case side2 => exact (Kd.R_reads' HO506.out).2.1)
    (case side3 => repeat (first | exact (Kd.N_reads' HO509.out).2.2 | (with_reducible refine Kd.C_alloc ?_ _) | (with_reducible refine Kd.C_drewN ?_ _) | (with_reducible refine Kd.C_drew ?_)))
    (case side4 => exact (Kd.N_reads' HO509.out).2.1)
    (case side5 => repeat (first | exact (Kd.R_reads' HO527.out).2.2 | (with_reducible refine Kd.C_alloc ?_ _) | (with_reducible refine Kd.C_drewN ?_ _) | (with_reducible refine Kd.C_drew ?_)))
    (case side6 => exact (Kd.R_reads' HO527.out).2.1)
    rintro e w135 ⟨rfl, hb⟩
    refine ⟨_, rfl, ?_⟩
    have n0_ := Aside0.mk (Kd.N_below (by (with_reducible repeat (first | apply Kd.N_alloc | apply Kd.N_drewN | apply Kd.N_drew)); exact HO500.out) hb)
    have n1_ := Aside0.mk (Kd.R_below (by (with_reducible repeat (first | apply Kd.R_alloc | apply Kd.R_drewN | apply Kd.R_drew)); exact HO506.out) hb)
    have n2_ := Aside0.mk (Kd.N_below (by (with_reducible repeat (first | apply Kd.N_alloc | apply Kd.N_drewN | apply Kd.N_drew)); exact HO509.out) hb)
    have n3_ := Aside0.mk (Kd.R_below (by (with_reducible repeat (first | apply Kd.R_alloc | apply Kd.R_drewN | apply Kd.R_drew)); exact HO513.out) hb)
    have n4_ := Aside0.mk (Kd.R_below (by (with_reducible repeat (first | apply Kd.R_alloc | apply Kd.R_drewN | apply Kd.R_drew)); exact HO516.out) hb)
    have n5_ := Aside0.mk (Kd.R_below (by (with_reducible repeat (first | apply Kd.R_alloc | apply Kd.R_drewN | apply Kd.R_drew)); exact HO519.out) hb)
    have n6_ := Aside0.mk (Kd.R_below (by (with_reducible repeat (first | apply Kd.R_alloc | apply Kd.R_drewN | apply Kd.R_drew)); exact HO524.out) hb)
    have n7_ := Aside0.mk (Kd.R_below (by (with_reducible repeat (first | apply Kd.R_alloc | apply Kd.R_drewN | apply Kd.R_drew)); exact HO527.out) hb)
    have n8_ := Aside0.mk (blk_below (g := gb510) (o := .cells #[.int .i64 t501, .int .i64 t502, .string t503, .slice Ao117 t504.length co117, .slice Ao118 t507.length co118] 25 (0, 0)) (by (with_reducible repeat (first | refine blk_drewN ?_ _ | refine blk_drew ?_ | refine blk_alloc ?_ _)); exact BK510.out) hb)
    have n9_ := Aside0.mk (below_step (by repeat (first | (with_reducible first | exact HB.out | apply below_alloc | apply pw_below_drewN | apply below_drew1 | refine below_set ?_ GE510.out) | exact HB.out)) hb)
    clear HO500
    clear HO506
    clear HO509
    clear HO513
    clear HO516
    clear HO519
    clear HO524
    clear HO527
    clear BK510
    clear HB
    have HO500 := n0_
    have HO506 := n1_
    have HO509 := n2_
    have HO513 := n3_
    have HO516 := n4_
    have HO519 := n5_
    have HO524 := n6_
    have HO527 := n7_
    have BK510 := n8_
    have HB := n9_
    clear n0_ n1_ n2_ n3_ n4_ n5_ n6_ n7_ n8_ n9_
    (try clear hb)
    (try clear hb2)
    (try clear hk)
    (try clear hi)
    refine hK.out _ _ ⟨(blk_cell BK510.out 0).trans rfl, (blk_cell BK510.out 1).trans rfl, (blk_cell BK510.out 2).trans rfl, (blk_cell BK510.out 3).trans rfl, (blk_cell BK510.out 4).trans rfl⟩ (fun hHeld => ?_)
    clear hK K
    refine norm_ (a' := ?_) ?_ ?_
    rotate_left
    · show Act.put _ (some 22) _ = _
      simp only [Act.put, List.setIfInBounds_toArray, List.set_cons_zero, List.set_cons_succ, i64_w, i32_w]
      rfl
    refine pure_ (i := 4) (N := some 18) (v := ?_) (a' := ?_) #[true, true, true, true, true, false, false, false, false] rfl rfl (any_of HT_.out (by kernel_rfl)) (fun _ _ _ h => h) (Or.inl ⟨by rfl, ?_⟩) ?_ ?_
    rotate_left
    · intro w'
      go_simp
      with_reducible rfl
    rotate_left
    · simp only [Act.put, List.setIfInBounds_toArray, List.set_cons_zero, List.set_cons_succ, i64_w, i32_w]
      rfl
    refine pure_ (i := 5) (N := some 23) (v := ?_) (a' := ?_) #[true, true, true, true, true, true, false, false, false] rfl rfl (any_of HT_.out (by kernel_rfl)) (fun _ _ _ h => h) (Or.inl ⟨by rfl, ?_⟩) ?_ ?_
    rotate_left
    · intro w'
      go_simp
      with_reducible rfl
    rotate_left
    · simp only [Act.put, List.setIfInBounds_toArray, List.set_cons_zero, List.set_cons_succ, i64_w, i32_w]
      rfl
    refine pure_ (i := 6) (N := some 24) (v := ?_) (a' := ?_) #[true, true, true, true, true, true, true, false, false] rfl rfl (any_of HT_.out (by kernel_rfl)) (fun _ _ _ h => h) (Or.inl ⟨by rfl, ?_⟩) ?_ ?_
    rotate_left
    · intro w'
      go_simp
      with_reducible rfl
    rotate_left
    · simp only [Act.put, List.setIfInBounds_toArray, List.set_cons_zero, List.set_cons_succ, i64_w, i32_w]
      rfl
    refine pure_ (i := 7) (N := some 4) (v := ?_) (a' := ?_) #[true, true, true, true, true, true, true, true, false] rfl rfl (any_of HT_.out (by kernel_rfl)) (fun _ _ _ h => h) (Or.inl ⟨by rfl, ?_⟩) ?_ ?_
    rotate_left
    · intro w'
      go_simp
      with_reducible rfl
    rotate_left
    · simp only [Act.put, List.setIfInBounds_toArray, List.set_cons_zero, List.set_cons_succ, i64_w, i32_w]
      rfl
    refine pure_ (i := 8) (N := some 5) (v := ?_) (a' := ?_) #[true, true, true, true, true, true, true, true, true] rfl rfl (any_of HT_.out (by kernel_rfl)) (fun _ _ _ h => h) (Or.inl ⟨by rfl, ?_⟩) ?_ ?_
    rotate_left
    · intro w'
      go_simp
      with_reducible rfl
    rotate_left
    · simp only [Act.put, List.setIfInBounds_toArray, List.set_cons_zero, List.set_cons_succ, i64_w, i32_w]
      rfl
    refine done_ (done_of HT_.out (by kernel_rfl)) ?_
    try go_wp2
    go_ret
    exact ⟨by first | rfl | (simp [errW_none, errW_some] <;> rfl) | (simp [*, errW_none, errW_some] <;> rfl), by repeat (first | (with_reducible first | exact HB.out | apply below_alloc | apply pw_below_drewN | apply below_drew1 | refine below_set ?_ GE510.out) | exact HB.out)⟩
end Go.Proofs.Ytbnmcnghmnhigaa.X
end
section
namespace Go.Proofs.Ytbnmcnghmnhigaa.X
open Go.RowKit Go.Proofs.YtbnmcnghmnhigaaW.PrintWords Go.Proofs.YtbnmcnghmnhigaaW.PrintLast Go.Proofs.YtbnmcnghmnhigaaW.PrintMore
attribute [local go_sem] max2_int min2_int max_two min_two max_three min_three max_four min_four
set_option linter.unusedVariables false
set_option linter.unusedSimpArgs false
theorem eqA48 (d : Nat) (w : World) (x0 y0 : ByteArray) (x1 y1 : Int) (x2 y2 : Bool) (x3 y3 : Int) (x4 y4 : Bool) :
    (Op.equalIn (d + 2) 48 (.agg #[.string x0, .int .i64 x1, .bool x2, .int .i64 x3, .bool x4]) (.agg #[.string y0, .int .i64 y1, .bool y2, .int .i64 y3, .bool y4])).run Try.prog w = .ok (x0.toList == y0.toList && (x1 == y1 && (x2 == y2 && (x3 == y3 && (x4 == y4))))) w := by
  refine eqA_of Try.underlying48 (by kernel_rfl) ?_
  refine eqf_cons (by rfl) (by go_simp; rfl) (by go_simp; rfl) (by go_simp) ?_
  refine eqf_cons (by rfl) (by go_simp; rfl) (by go_simp; rfl) (by go_simp) ?_
  refine eqf_cons (by rfl) (by go_simp; rfl) (by go_simp; rfl) (by go_simp) ?_
  refine eqf_cons (by rfl) (by go_simp; rfl) (by go_simp; rfl) (by go_simp) ?_
  exact eqf_last (by rfl) (by go_simp; rfl) (by go_simp; rfl) (by go_simp)
end Go.Proofs.Ytbnmcnghmnhigaa.X
end
section
namespace Go.Proofs.Ytbnmcnghmnhigaa.X
open Go.RowKit Go.Proofs.YtbnmcnghmnhigaaW.PrintWords Go.Proofs.YtbnmcnghmnhigaaW.PrintLast Go.Proofs.YtbnmcnghmnhigaaW.PrintMore
attribute [local go_sem] Go.Instr.field Go.asAgg max2_int min2_int max_two min_two max_three min_three max_four min_four
set_option linter.unusedVariables false
set_option linter.unusedSimpArgs false
attribute [local go_sem high] eqA48
mutual
def sealringlaw29_FieldRules.j0 : Nat → Int → Int → List ByteArray → List (S48) → List (S48) → List (S48) → List (S48) → Bool → Option (Bool)
  | 0, _, _, _, _, _, _, _, _ => none
  | k + 1, x0, x1, x2, x7, x8, x9, x10, x53 => if x53 = true then (some false) else (sealringlaw29_FieldRules.l0 k x0 x1 x7 x8 x9 x10 x2 (x2.length : Int) 0)
def sealringlaw29_FieldRules.l0 : Nat → Int → Int → List (S48) → List (S48) → List (S48) → List (S48) → List ByteArray → Int → Int → Option (Bool)
  | 0, _, _, _, _, _, _, _, _, _ => none
  | k + 1, x0, x1, x7, x8, x9, x10, x54, x55, x56 => if x56 < x55 then (if 0 ≤ x56 then (if x56 < (x54.length : Int) then (if x56 < (x7.length : Int) then (if (!((((rd_T48 x7 x56).f0).toList) == ((rdOf ByteArray.empty x54 x56).toList)) || (!(((rd_T48 x7 x56).f1) == x0) || (!((rd_T48 x7 x56).f2) || (!(((rd_T48 x7 x56).f3) == 0) || (((rd_T48 x7 x56).f4)))))) = true then (some false) else (if x56 < (x8.length : Int) then (if (!((((rd_T48 x8 x56).f0).toList) == ((rdOf ByteArray.empty x54 x56).toList)) || (!(((rd_T48 x8 x56).f1) == x0) || (((rd_T48 x8 x56).f2) || (!(((rd_T48 x8 x56).f3) == 0) || (((rd_T48 x8 x56).f4)))))) = true then (some false) else (if x56 < (x9.length : Int) then (if (!((((rd_T48 x9 x56).f0).toList) == ((rdOf ByteArray.empty x54 x56).toList)) || (!(((rd_T48 x9 x56).f1) == x0) || (!((rd_T48 x9 x56).f2) || (!(((rd_T48 x9 x56).f3) == x1) || (((rd_T48 x9 x56).f4)))))) = true then (some false) else (if x56 < (x10.length : Int) then (if (!((((rd_T48 x10 x56).f0).toList) == ((rdOf ByteArray.empty x54 x56).toList)) || (!(((rd_T48 x10 x56).f1) == x0) || (((rd_T48 x10 x56).f2) || (!(((rd_T48 x10 x56).f3) == 0) || (!((rd_T48 x10 x56).f4)))))) = true then (some false) else (sealringlaw29_FieldRules.l0 k x0 x1 x7 x8 x9 x10 x54 x55 (wrap64 (x56 + 1)))) else (none))) else (none))) else (none))) else (none)) else (none)) else (none)) else ((sealringlaw29_lives.f k).bind fun t548 => (some t548))
end
def sealringlaw29_FieldRules.f (k : Nat) (a0 : Int) (a1 : Int) (l2 : List ByteArray) : Option (Bool) := if (l2.length : Int) > 30 then ((sealringlaw29_lives.f k).bind fun t530 => (some t530)) else ((field_Must.f k a0 l2).bind fun t531 => ((field_May.f k a0 l2).bind fun t534 => ((field_Most.f a1 t531).bind fun t537 => ((field_Low.f t534).bind fun t540 => (if (t531.length : Int) = (l2.length : Int) then (if (t534.length : Int) = (l2.length : Int) then (if (t537.length : Int) = (l2.length : Int) then (sealringlaw29_FieldRules.j0 k a0 a1 l2 t531 t534 t537 t540 ((t540.length : Int) != (l2.length : Int))) else (sealringlaw29_FieldRules.j0 k a0 a1 l2 t531 t534 t537 t540 true)) else (sealringlaw29_FieldRules.j0 k a0 a1 l2 t531 t534 t537 t540 true)) else (sealringlaw29_FieldRules.j0 k a0 a1 l2 t531 t534 t537 t540 true))))))
theorem sealringlaw29_FieldRules.mono_l : ∀ k, (∀ y0 y1 y2 y3 y4 y5 y6 y7, LeO (sealringlaw29_FieldRules.j0 k y0 y1 y2 y3 y4 y5 y6 y7) (sealringlaw29_FieldRules.j0 (k + 1) y0 y1 y2 y3 y4 y5 y6 y7)) ∧ (∀ y0 y1 y2 y3 y4 y5 y6 y7 y8, LeO (sealringlaw29_FieldRules.l0 k y0 y1 y2 y3 y4 y5 y6 y7 y8) (sealringlaw29_FieldRules.l0 (k + 1) y0 y1 y2 y3 y4 y5 y6 y7 y8))
  | 0 => ⟨fun _ _ _ _ _ _ _ _ r h => by simp [sealringlaw29_FieldRules.j0] at h, fun _ _ _ _ _ _ _ _ _ r h => by simp [sealringlaw29_FieldRules.l0] at h⟩
  | k + 1 => by
    obtain ⟨ih0, ih1⟩ := sealringlaw29_FieldRules.mono_l k
    refine ⟨?_, ?_⟩
    · intro y0 y1 y2 y3 y4 y5 y6 y7
      unfold sealringlaw29_FieldRules.j0
      repeat' first
      | (with_reducible exact ih0 _ _ _ _ _ _ _ _)
      | (with_reducible exact ih1 _ _ _ _ _ _ _ _ _)
      | (with_reducible exact field_May.mono _ _ _)
      | (with_reducible exact field_Must.mono _ _ _)
      | (with_reducible exact sealringlaw29_lives.mono _)
      | (with_reducible exact LeO.refl _)
      | (with_reducible exact LeO.none _)
      | (with_reducible refine LeO.ite ?_ ?_)
      | (with_reducible refine LeO.bind ?_ (fun _ => ?_))
      | exact ih0 _ _ _ _ _ _ _ _
      | exact ih1 _ _ _ _ _ _ _ _ _
      | exact field_May.mono _ _ _
      | exact field_Must.mono _ _ _
      | exact sealringlaw29_lives.mono _
      | exact LeO.none _
      | refine LeO.ite ?_ ?_
      | refine LeO.bind ?_ (fun _ => ?_)
    · intro y0 y1 y2 y3 y4 y5 y6 y7 y8
      unfold sealringlaw29_FieldRules.l0
      repeat' first
      | (with_reducible exact ih0 _ _ _ _ _ _ _ _)
      | (with_reducible exact ih1 _ _ _ _ _ _ _ _ _)
      | (with_reducible exact field_May.mono _ _ _)
      | (with_reducible exact field_Must.mono _ _ _)
      | (with_reducible exact sealringlaw29_lives.mono _)
      | (with_reducible exact LeO.refl _)
      | (with_reducible exact LeO.none _)
      | (with_reducible refine LeO.ite ?_ ?_)
      | (with_reducible refine LeO.bind ?_ (fun _ => ?_))
      | exact ih0 _ _ _ _ _ _ _ _
      | exact ih1 _ _ _ _ _ _ _ _ _
      | exact field_May.mono _ _ _
      | exact field_Must.mono _ _ _
      | exact sealringlaw29_lives.mono _
      | exact LeO.none _
      | refine LeO.ite ?_ ?_
      | refine LeO.bind ?_ (fun _ => ?_)
theorem sealringlaw29_FieldRules.mono : ∀ a0 a1 a2 k, LeO (sealringlaw29_FieldRules.f k a0 a1 a2) (sealringlaw29_FieldRules.f (k + 1) a0 a1 a2) := by
  intro a0 a1 a2 k
  obtain ⟨ih0, ih1⟩ := sealringlaw29_FieldRules.mono_l k
  unfold sealringlaw29_FieldRules.f
  repeat' first
      | (with_reducible exact ih0 _ _ _ _ _ _ _ _)
      | (with_reducible exact ih1 _ _ _ _ _ _ _ _ _)
      | (with_reducible exact field_May.mono _ _ _)
      | (with_reducible exact field_Must.mono _ _ _)
      | (with_reducible exact sealringlaw29_lives.mono _)
      | (with_reducible exact LeO.refl _)
      | (with_reducible exact LeO.none _)
      | (with_reducible refine LeO.ite ?_ ?_)
      | (with_reducible refine LeO.bind ?_ (fun _ => ?_))
      | exact ih0 _ _ _ _ _ _ _ _
      | exact ih1 _ _ _ _ _ _ _ _ _
      | exact field_May.mono _ _ _
      | exact field_Must.mono _ _ _
      | exact sealringlaw29_lives.mono _
      | exact LeO.none _
      | refine LeO.ite ?_ ?_
      | refine LeO.bind ?_ (fun _ => ?_)
set_option maxHeartbeats 8000000 in
set_option maxRecDepth 100000 in
theorem sealringlaw29_FieldRules.calls (k : Nat) (a0 : Int) (a1 : Int) (A2 : Option Addr) (c2 : Nat) (l2 : List ByteArray) (r : Bool) (w : World) (hr2 : Kd.C Kd.string w A2 l2.length l2) (hc2 : l2.length ≤ c2) (h : sealringlaw29_FieldRules.f k a0 a1 l2 = some r) :
    Calls Try.prog 5 #[.int .i64 a0, .int .i64 a1, .slice A2 l2.length c2] w fun e w' => e = .returned (.bool r) ∧ Below w.heap.size w w' := by
  have hu48 := Try.underlying48
  have HR2 := Aside0.mk hr2
  have HC2 := Aside0.mk hc2
  clear hr2 hc2
  have HB := Aside0.mk (Below.refl w.heap.size w)
  have H : (if (l2.length : Int) > 30 then ((sealringlaw29_lives.f k).bind fun t530 => (some t530)) else ((field_Must.f k a0 l2).bind fun t531 => ((field_May.f k a0 l2).bind fun t534 => ((field_Most.f a1 t531).bind fun t537 => ((field_Low.f t534).bind fun t540 => (if (t531.length : Int) = (l2.length : Int) then (if (t534.length : Int) = (l2.length : Int) then (if (t537.length : Int) = (l2.length : Int) then (sealringlaw29_FieldRules.j0 k a0 a1 l2 t531 t534 t537 t540 ((t540.length : Int) != (l2.length : Int))) else (sealringlaw29_FieldRules.j0 k a0 a1 l2 t531 t534 t537 t540 true)) else (sealringlaw29_FieldRules.j0 k a0 a1 l2 t531 t534 t537 t540 true)) else (sealringlaw29_FieldRules.j0 k a0 a1 l2 t531 t534 t537 t540 true))))))) = some r := h
  clear h
  by_cases c4 : (l2.length : Int) > 30
  · rw [if_pos c4] at H
    have c4b0 : decide (30 < (l2.length : Int)) = true := decide_eq_true c4
    have c4b1 : decide (30 < l2.length) = true := decide_eq_true (by omega)
    clear c4
    replace H := Option.bind_eq_some_iff.mp H
    obtain ⟨t530, A50, H⟩ := H
    replace H : (some t530) = some r := H
    have A5 := Aside0.mk A50
    clear A50
    obtain rfl := Option.some.inj H
    have hu29 := Try.underlying29
    go_enter Try.func5, Try.ntmps5
    go_wp2_with (first | ((with_reducible refine gate_callee (f := 25) rfl ?_); refine goesL_ (some 16) rfl rfl Try.func25 (by kernel_rfl) rfl #[] rfl (by (try simp only [List.map_toArray, List.map_cons, List.map_nil]); first | done | rfl | (simp only [List.length_drop, List.length_take]; rfl)) ?_; (with_reducible refine (sealringlaw29_lives.calls k  t530 _ A5.out).mono ?_); rintro e w6 ⟨rfl, hb⟩; refine ⟨_, rfl, ?_⟩; have n0_ := Aside0.mk (below_step (by repeat (first | (with_reducible first | exact HB.out | apply below_alloc | apply pw_below_drewN | apply below_drew1) | exact HB.out)) hb); clear HB; have HB := n0_; clear n0_; (try clear hb); (try clear hb2); (try clear hk); (try clear hi)))
    go_ret
    exact ⟨by first | rfl | (simp [errW_none, errW_some] <;> rfl) | (simp [*, errW_none, errW_some] <;> rfl), by repeat (first | (with_reducible first | exact HB.out | apply below_alloc | apply pw_below_drewN | apply below_drew1) | exact HB.out)⟩
  · rw [if_neg c4] at H
    have c4b0 : decide (30 < (l2.length : Int)) = false := decide_eq_false c4
    have c4b1 : decide (30 < l2.length) = false := decide_eq_false (by omega)
    clear c4
    replace H := Option.bind_eq_some_iff.mp H
    obtain ⟨t531, A70, H⟩ := H
    replace H : ((field_May.f k a0 l2).bind fun t534 => ((field_Most.f a1 t531).bind fun t537 => ((field_Low.f t534).bind fun t540 => (if (t531.length : Int) = (l2.length : Int) then (if (t534.length : Int) = (l2.length : Int) then (if (t537.length : Int) = (l2.length : Int) then (sealringlaw29_FieldRules.j0 k a0 a1 l2 t531 t534 t537 t540 ((t540.length : Int) != (l2.length : Int))) else (sealringlaw29_FieldRules.j0 k a0 a1 l2 t531 t534 t537 t540 true)) else (sealringlaw29_FieldRules.j0 k a0 a1 l2 t531 t534 t537 t540 true)) else (sealringlaw29_FieldRules.j0 k a0 a1 l2 t531 t534 t537 t540 true))))) = some r := H
    have A7 := Aside0.mk A70
    clear A70
    replace H := Option.bind_eq_some_iff.mp H
    obtain ⟨t534, A80, H⟩ := H
    replace H : ((field_Most.f a1 t531).bind fun t537 => ((field_Low.f t534).bind fun t540 => (if (t531.length : Int) = (l2.length : Int) then (if (t534.length : Int) = (l2.length : Int) then (if (t537.length : Int) = (l2.length : Int) then (sealringlaw29_FieldRules.j0 k a0 a1 l2 t531 t534 t537 t540 ((t540.length : Int) != (l2.length : Int))) else (sealringlaw29_FieldRules.j0 k a0 a1 l2 t531 t534 t537 t540 true)) else (sealringlaw29_FieldRules.j0 k a0 a1 l2 t531 t534 t537 t540 true)) else (sealringlaw29_FieldRules.j0 k a0 a1 l2 t531 t534 t537 t540 true)))) = some r := H
    have A8 := Aside0.mk A80
    clear A80
    replace H := Option.bind_eq_some_iff.mp H
    obtain ⟨t537, A90, H⟩ := H
    replace H : ((field_Low.f t534).bind fun t540 => (if (t531.length : Int) = (l2.length : Int) then (if (t534.length : Int) = (l2.length : Int) then (if (t537.length : Int) = (l2.length : Int) then (sealringlaw29_FieldRules.j0 k a0 a1 l2 t531 t534 t537 t540 ((t540.length : Int) != (l2.length : Int))) else (sealringlaw29_FieldRules.j0 k a0 a1 l2 t531 t534 t537 t540 true)) else (sealringlaw29_FieldRules.j0 k a0 a1 l2 t531 t534 t537 t540 true)) else (sealringlaw29_FieldRules.j0 k a0 a1 l2 t531 t534 t537 t540 true))) = some r := H
    have A9 := Aside0.mk A90
    clear A90
    replace H := Option.bind_eq_some_iff.mp H
    obtain ⟨t540, A100, H⟩ := H
    replace H : (if (t531.length : Int) = (l2.length : Int) then (if (t534.length : Int) = (l2.length : Int) then (if (t537.length : Int) = (l2.length : Int) then (sealringlaw29_FieldRules.j0 k a0 a1 l2 t531 t534 t537 t540 ((t540.length : Int) != (l2.length : Int))) else (sealringlaw29_FieldRules.j0 k a0 a1 l2 t531 t534 t537 t540 true)) else (sealringlaw29_FieldRules.j0 k a0 a1 l2 t531 t534 t537 t540 true)) else (sealringlaw29_FieldRules.j0 k a0 a1 l2 t531 t534 t537 t540 true)) = some r := H
    have A10 := Aside0.mk A100
    clear A100
    have HC11 := Aside0.mk H
    clear H
    have hu29 := Try.underlying29
    go_enter Try.func5, Try.ntmps5
    go_upto_region 5 with (first | ((with_reducible refine gate_callee (f := 26) rfl ?_); refine goesL_ (some 19) rfl rfl Try.func26 (by kernel_rfl) rfl #[.int .i64 a0, .slice A2 l2.length c2] rfl (by (try simp only [List.map_toArray, List.map_cons, List.map_nil]); first | done | rfl | (simp only [List.length_drop, List.length_take]; rfl)) ?_; (with_reducible refine (field_Must.calls k a0 _ _ l2 t531 _ ?side1 ?side2 A7.out).mono ?_); (case side1 => repeat (first | exact HR2.out | (with_reducible refine Kd.C_alloc ?_ _) | (with_reducible refine Kd.C_drewN ?_ _) | (with_reducible refine Kd.C_drew ?_))); (case side2 => exact HC2.out); rintro e w12 ⟨v532, rfl, ho0, hb⟩; refine ⟨_, rfl, ?_⟩; have n0_ := Aside0.mk (Kd.R_lower ho0 (below_size (by repeat (first | (with_reducible first | exact HB.out | apply below_alloc | apply pw_below_drewN | apply below_drew1) | exact HB.out)))); have n1_ := Aside0.mk (below_step (by repeat (first | (with_reducible first | exact HB.out | apply below_alloc | apply pw_below_drewN | apply below_drew1) | exact HB.out)) hb); clear HB; have HO533 := n0_; have HB := n1_; clear n0_ n1_; (try clear hb); (try clear hb2); (try clear hk); (try clear hi); (try clear ho0)) | ((with_reducible refine gate_callee (f := 27) rfl ?_); refine goesL_ (some 22) rfl rfl Try.func27 (by kernel_rfl) rfl #[.int .i64 a0, .slice A2 l2.length c2] rfl (by (try simp only [List.map_toArray, List.map_cons, List.map_nil]); first | done | rfl | (simp only [List.length_drop, List.length_take]; rfl)) ?_; (with_reducible refine (field_May.calls k a0 _ _ l2 t534 _ ?side1 ?side2 A8.out).mono ?_); (case side1 => repeat (first | exact (Kd.C_below HR2.out HB.out) | (with_reducible refine Kd.C_alloc ?_ _) | (with_reducible refine Kd.C_drewN ?_ _) | (with_reducible refine Kd.C_drew ?_))); (case side2 => exact HC2.out); rintro e w13 ⟨v535, rfl, ho0, hb⟩; refine ⟨_, rfl, ?_⟩; have n0_ := Aside0.mk (Kd.R_elder' (by (with_reducible repeat (first | apply Kd.R_alloc | apply Kd.R_drewN | apply Kd.R_drew)); exact HO533.out) (Kd.R_base ho0) hb); have n1_ := Aside0.mk (Kd.R_lower (Kd.R_new' ho0 (Kd.R_lt (by (with_reducible repeat (first | apply Kd.R_alloc | apply Kd.R_drewN | apply Kd.R_drew)); exact HO533.out))) (below_size (by repeat (first | (with_reducible first | exact HB.out | apply below_alloc | apply pw_below_drewN | apply below_drew1) | exact HB.out)))); have n2_ := Aside0.mk (below_step (by repeat (first | (with_reducible first | exact HB.out | apply below_alloc | apply pw_below_drewN | apply below_drew1) | exact HB.out)) hb); clear HO533; clear HB; have HO533 := n0_; have HO536 := n1_; have HB := n2_; clear n0_ n1_ n2_; (try clear hb); (try clear hb2); (try clear hk); (try clear hi); (try clear ho0); obtain ⟨Ao14, co14, eo14⟩ := Kd.R_slice HO533.out; subst eo14) | ((with_reducible refine gate_callee (f := 28) rfl ?_); refine goesL_ (some 25) rfl rfl Try.func28 (by kernel_rfl) rfl #[.int .i64 a1, .slice Ao14 t531.length co14] rfl (by (try simp only [List.map_toArray, List.map_cons, List.map_nil]); first | done | rfl | (simp only [List.length_drop, List.length_take]; rfl)) ?_; (with_reducible refine (field_Most.calls a1 _ _ t531 t537 _ ?side1 ?side2 A9.out).mono ?_); (case side1 => repeat (first | exact (Kd.R_reads' HO533.out).2.2 | (with_reducible refine Kd.C_alloc ?_ _) | (with_reducible refine Kd.C_drewN ?_ _) | (with_reducible refine Kd.C_drew ?_))); (case side2 => exact (Kd.R_reads' HO533.out).2.1); rintro e w15 ⟨v538, rfl, ho0, hb⟩; refine ⟨_, rfl, ?_⟩; have n0_ := Aside0.mk (Kd.R_elder' (by (with_reducible repeat (first | apply Kd.R_alloc | apply Kd.R_drewN | apply Kd.R_drew)); exact HO533.out) (Kd.R_base ho0) hb); have n1_ := Aside0.mk (Kd.R_elder' (by (with_reducible repeat (first | apply Kd.R_alloc | apply Kd.R_drewN | apply Kd.R_drew)); exact HO536.out) (Kd.R_base ho0) hb); have n2_ := Aside0.mk (Kd.R_lower (Kd.R_new' (Kd.R_new' ho0 (Kd.R_lt (by (with_reducible repeat (first | apply Kd.R_alloc | apply Kd.R_drewN | apply Kd.R_drew)); exact HO533.out))) (Kd.R_lt (by (with_reducible repeat (first | apply Kd.R_alloc | apply Kd.R_drewN | apply Kd.R_drew)); exact HO536.out))) (below_size (by repeat (first | (with_reducible first | exact HB.out | apply below_alloc | apply pw_below_drewN | apply below_drew1) | exact HB.out)))); have n3_ := Aside0.mk (below_step (by repeat (first | (with_reducible first | exact HB.out | apply below_alloc | apply pw_below_drewN | apply below_drew1) | exact HB.out)) hb); clear HO533; clear HO536; clear HB; have HO533 := n0_; have HO536 := n1_; have HO539 := n2_; have HB := n3_; clear n0_ n1_ n2_ n3_; (try clear hb); (try clear hb2); (try clear hk); (try clear hi); (try clear ho0); obtain ⟨Ao16, co16, eo16⟩ := Kd.R_slice HO536.out; subst eo16) | ((with_reducible refine gate_callee (f := 29) rfl ?_); refine goesL_ (some 27) rfl rfl Try.func29 (by kernel_rfl) rfl #[.slice Ao16 t534.length co16] rfl (by (try simp only [List.map_toArray, List.map_cons, List.map_nil]); first | done | rfl | (simp only [List.length_drop, List.length_take]; rfl)) ?_; (with_reducible refine (field_Low.calls _ _ t534 t540 _ ?side1 ?side2 A10.out).mono ?_); (case side1 => repeat (first | exact (Kd.R_reads' HO536.out).2.2 | (with_reducible refine Kd.C_alloc ?_ _) | (with_reducible refine Kd.C_drewN ?_ _) | (with_reducible refine Kd.C_drew ?_))); (case side2 => exact (Kd.R_reads' HO536.out).2.1); rintro e w17 ⟨v541, rfl, ho0, hb⟩; refine ⟨_, rfl, ?_⟩; have n0_ := Aside0.mk (Kd.R_elder' (by (with_reducible repeat (first | apply Kd.R_alloc | apply Kd.R_drewN | apply Kd.R_drew)); exact HO533.out) (Kd.R_base ho0) hb); have n1_ := Aside0.mk (Kd.R_elder' (by (with_reducible repeat (first | apply Kd.R_alloc | apply Kd.R_drewN | apply Kd.R_drew)); exact HO536.out) (Kd.R_base ho0) hb); have n2_ := Aside0.mk (Kd.R_elder' (by (with_reducible repeat (first | apply Kd.R_alloc | apply Kd.R_drewN | apply Kd.R_drew)); exact HO539.out) (Kd.R_base ho0) hb); have n3_ := Aside0.mk (Kd.R_lower (Kd.R_new' (Kd.R_new' (Kd.R_new' ho0 (Kd.R_lt (by (with_reducible repeat (first | apply Kd.R_alloc | apply Kd.R_drewN | apply Kd.R_drew)); exact HO533.out))) (Kd.R_lt (by (with_reducible repeat (first | apply Kd.R_alloc | apply Kd.R_drewN | apply Kd.R_drew)); exact HO536.out))) (Kd.R_lt (by (with_reducible repeat (first | apply Kd.R_alloc | apply Kd.R_drewN | apply Kd.R_drew)); exact HO539.out))) (below_size (by repeat (first | (with_reducible first | exact HB.out | apply below_alloc | apply pw_below_drewN | apply below_drew1) | exact HB.out)))); have n4_ := Aside0.mk (below_step (by repeat (first | (with_reducible first | exact HB.out | apply below_alloc | apply pw_below_drewN | apply below_drew1) | exact HB.out)) hb); clear HO533; clear HO536; clear HO539; clear HB; have HO533 := n0_; have HO536 := n1_; have HO539 := n2_; have HO542 := n3_; have HB := n4_; clear n0_ n1_ n2_ n3_ n4_; (try clear hb); (try clear hb2); (try clear hk); (try clear hi); (try clear ho0)))
    (try simp only [Act.put, List.setIfInBounds_toArray, List.set_cons_zero, List.set_cons_succ])
    go_cut [53] (fun v53 wc => ∃ (kq : Nat) (x53_10 : Bool), v53 = .bool x53_10 ∧ Aside0 (sealringlaw29_FieldRules.j0 kq a0 a1 l2 t531 t534 t537 t540 x53_10 = some r) ∧ Aside0 (kq ≤ k) ∧ Aside0 (Kd.R k48 48 wc w.heap.size (fun k_ => some k_ ≠ ((.slice Ao16 t534.length co16) : Value).ownBlock ∧ some k_ ≠ (v538 : Value).ownBlock ∧ some k_ ≠ (v541 : Value).ownBlock) (.slice Ao14 t531.length co14) t531) ∧ Aside0 (Kd.R k48 48 wc w.heap.size (fun k_ => some k_ ≠ ((.slice Ao14 t531.length co14) : Value).ownBlock ∧ some k_ ≠ (v538 : Value).ownBlock ∧ some k_ ≠ (v541 : Value).ownBlock) (.slice Ao16 t534.length co16) t534) ∧ Aside0 (Kd.R k48 48 wc w.heap.size (fun k_ => some k_ ≠ ((.slice Ao14 t531.length co14) : Value).ownBlock ∧ some k_ ≠ ((.slice Ao16 t534.length co16) : Value).ownBlock ∧ some k_ ≠ (v541 : Value).ownBlock) v538 t537) ∧ Aside0 (Kd.R k48 48 wc w.heap.size (fun k_ => some k_ ≠ ((.slice Ao14 t531.length co14) : Value).ownBlock ∧ some k_ ≠ ((.slice Ao16 t534.length co16) : Value).ownBlock ∧ some k_ ≠ (v538 : Value).ownBlock) v541 t540) ∧ Aside0 (Below w.heap.size w wc))
    case first =>
      have H := HC11.out
      clear HC11
      by_cases c18 : (t531.length : Int) = (l2.length : Int)
      · rw [if_pos c18] at H
        have c18b0 : ((t531.length : Int) == (l2.length : Int)) = true := beq_iff_eq.mpr c18
        have c18b1 : ((t531.length : Int) != (l2.length : Int)) = false := bne_eq_false_iff_eq.mpr c18
        have c18b2 : (t531.length == l2.length) = true := by first | simpa using c18 | (simp at c18 ⊢; omega)
        clear c18
        (first | rw [c18b0] | (simp only [i64_w, i32_w]; rw [c18b0]) | skip)
        by_cases c19 : (t534.length : Int) = (l2.length : Int)
        · rw [if_pos c19] at H
          have c19b0 : ((t534.length : Int) == (l2.length : Int)) = true := beq_iff_eq.mpr c19
          have c19b1 : ((t534.length : Int) != (l2.length : Int)) = false := bne_eq_false_iff_eq.mpr c19
          have c19b2 : (t534.length == l2.length) = true := by first | simpa using c19 | (simp at c19 ⊢; omega)
          clear c19
          by_cases c20 : (t537.length : Int) = (l2.length : Int)
          · rw [if_pos c20] at H
            have c20b0 : ((t537.length : Int) == (l2.length : Int)) = true := beq_iff_eq.mpr c20
            have c20b1 : ((t537.length : Int) != (l2.length : Int)) = false := bne_eq_false_iff_eq.mpr c20
            have c20b2 : (t537.length == l2.length) = true := by first | simpa using c20 | (simp at c20 ⊢; omega)
            clear c20
            have H' := Aside0.mk H
            clear H
            obtain ⟨Ao21, co21, eo21⟩ := Kd.R_slice HO539.out
            subst eo21
            obtain ⟨Ao22, co22, eo22⟩ := Kd.R_slice HO542.out
            subst eo22
            go_wp2
            go_meet
            case rel => exact ⟨_, (((t540.length : Int) != (l2.length : Int))), (by first | rfl | (simp; done) | (simp [*]; done)), (by first | with_reducible exact H' | exact H' | (subst_vars; exact H')), ⟨by first | omega | exact Nat.le_refl _⟩, ⟨by (with_reducible repeat (first | apply Kd.R_alloc | apply Kd.R_drewN | apply Kd.R_drew)); exact Kd.R_mono HO533.out (fun _ hk => ⟨hk.1.1.2, ⟨hk.1.2, hk.2⟩⟩)⟩, ⟨by (with_reducible repeat (first | apply Kd.R_alloc | apply Kd.R_drewN | apply Kd.R_drew)); exact Kd.R_mono HO536.out (fun _ hk => ⟨hk.1.1.2, ⟨hk.1.2, hk.2⟩⟩)⟩, ⟨by (with_reducible repeat (first | apply Kd.R_alloc | apply Kd.R_drewN | apply Kd.R_drew)); exact Kd.R_mono HO539.out (fun _ hk => ⟨hk.1.1.2, ⟨hk.1.2, hk.2⟩⟩)⟩, ⟨by (with_reducible repeat (first | apply Kd.R_alloc | apply Kd.R_drewN | apply Kd.R_drew)); exact Kd.R_mono HO542.out (fun _ hk => ⟨hk.1.1.2, ⟨hk.1.2, hk.2⟩⟩)⟩, ⟨by repeat (first | (with_reducible first | exact HB.out | apply below_alloc | apply pw_below_drewN | apply below_drew1) | exact HB.out)⟩⟩
          · rw [if_neg c20] at H
            have c20b0 : ((t537.length : Int) == (l2.length : Int)) = false := beq_eq_false_iff_ne.mpr c20
            have c20b1 : ((t537.length : Int) != (l2.length : Int)) = true := bne_iff_ne.mpr c20
            have c20b2 : (t537.length == l2.length) = false := by first | simpa using c20 | (simp at c20 ⊢; omega)
            have H' := Aside0.mk H
            clear H
            obtain ⟨Ao23, co23, eo23⟩ := Kd.R_slice HO539.out
            subst eo23
            go_wp2
            go_meet
            case rel => exact ⟨_, (true), (by first | rfl | (simp; done) | (simp [*]; done)), (by first | with_reducible exact H' | exact H' | (subst_vars; exact H')), ⟨by first | omega | exact Nat.le_refl _⟩, ⟨by (with_reducible repeat (first | apply Kd.R_alloc | apply Kd.R_drewN | apply Kd.R_drew)); exact Kd.R_mono HO533.out (fun _ hk => ⟨hk.1.1.2, ⟨hk.1.2, hk.2⟩⟩)⟩, ⟨by (with_reducible repeat (first | apply Kd.R_alloc | apply Kd.R_drewN | apply Kd.R_drew)); exact Kd.R_mono HO536.out (fun _ hk => ⟨hk.1.1.2, ⟨hk.1.2, hk.2⟩⟩)⟩, ⟨by (with_reducible repeat (first | apply Kd.R_alloc | apply Kd.R_drewN | apply Kd.R_drew)); exact Kd.R_mono HO539.out (fun _ hk => ⟨hk.1.1.2, ⟨hk.1.2, hk.2⟩⟩)⟩, ⟨by (with_reducible repeat (first | apply Kd.R_alloc | apply Kd.R_drewN | apply Kd.R_drew)); exact Kd.R_mono HO542.out (fun _ hk => ⟨hk.1.1.2, ⟨hk.1.2, hk.2⟩⟩)⟩, ⟨by repeat (first | (with_reducible first | exact HB.out | apply below_alloc | apply pw_below_drewN | apply below_drew1) | exact HB.out)⟩⟩
        · rw [if_neg c19] at H
          have c19b0 : ((t534.length : Int) == (l2.length : Int)) = false := beq_eq_false_iff_ne.mpr c19
          have c19b1 : ((t534.length : Int) != (l2.length : Int)) = true := bne_iff_ne.mpr c19
          have c19b2 : (t534.length == l2.length) = false := by first | simpa using c19 | (simp at c19 ⊢; omega)
          have H' := Aside0.mk H
          clear H
          go_wp2
          go_meet
          case rel => exact ⟨_, (true), (by first | rfl | (simp; done) | (simp [*]; done)), (by first | with_reducible exact H' | exact H' | (subst_vars; exact H')), ⟨by first | omega | exact Nat.le_refl _⟩, ⟨by (with_reducible repeat (first | apply Kd.R_alloc | apply Kd.R_drewN | apply Kd.R_drew)); exact Kd.R_mono HO533.out (fun _ hk => ⟨hk.1.1.2, ⟨hk.1.2, hk.2⟩⟩)⟩, ⟨by (with_reducible repeat (first | apply Kd.R_alloc | apply Kd.R_drewN | apply Kd.R_drew)); exact Kd.R_mono HO536.out (fun _ hk => ⟨hk.1.1.2, ⟨hk.1.2, hk.2⟩⟩)⟩, ⟨by (with_reducible repeat (first | apply Kd.R_alloc | apply Kd.R_drewN | apply Kd.R_drew)); exact Kd.R_mono HO539.out (fun _ hk => ⟨hk.1.1.2, ⟨hk.1.2, hk.2⟩⟩)⟩, ⟨by (with_reducible repeat (first | apply Kd.R_alloc | apply Kd.R_drewN | apply Kd.R_drew)); exact Kd.R_mono HO542.out (fun _ hk => ⟨hk.1.1.2, ⟨hk.1.2, hk.2⟩⟩)⟩, ⟨by repeat (first | (with_reducible first | exact HB.out | apply below_alloc | apply pw_below_drewN | apply below_drew1) | exact HB.out)⟩⟩
      · rw [if_neg c18] at H
        have c18b0 : ((t531.length : Int) == (l2.length : Int)) = false := beq_eq_false_iff_ne.mpr c18
        have c18b1 : ((t531.length : Int) != (l2.length : Int)) = true := bne_iff_ne.mpr c18
        have c18b2 : (t531.length == l2.length) = false := by first | simpa using c18 | (simp at c18 ⊢; omega)
        (first | rw [c18b0] | (simp only [i64_w, i32_w]; rw [c18b0]) | skip)
        have H' := Aside0.mk H
        clear H
        go_wp2
        go_meet
        case rel => exact ⟨_, (true), (by first | rfl | (simp; done) | (simp [*]; done)), (by first | with_reducible exact H' | exact H' | (subst_vars; exact H')), ⟨by first | omega | exact Nat.le_refl _⟩, ⟨by (with_reducible repeat (first | apply Kd.R_alloc | apply Kd.R_drewN | apply Kd.R_drew)); exact Kd.R_mono HO533.out (fun _ hk => ⟨hk.1.1.2, ⟨hk.1.2, hk.2⟩⟩)⟩, ⟨by (with_reducible repeat (first | apply Kd.R_alloc | apply Kd.R_drewN | apply Kd.R_drew)); exact Kd.R_mono HO536.out (fun _ hk => ⟨hk.1.1.2, ⟨hk.1.2, hk.2⟩⟩)⟩, ⟨by (with_reducible repeat (first | apply Kd.R_alloc | apply Kd.R_drewN | apply Kd.R_drew)); exact Kd.R_mono HO539.out (fun _ hk => ⟨hk.1.1.2, ⟨hk.1.2, hk.2⟩⟩)⟩, ⟨by (with_reducible repeat (first | apply Kd.R_alloc | apply Kd.R_drewN | apply Kd.R_drew)); exact Kd.R_mono HO542.out (fun _ hk => ⟨hk.1.1.2, ⟨hk.1.2, hk.2⟩⟩)⟩, ⟨by repeat (first | (with_reducible first | exact HB.out | apply below_alloc | apply pw_below_drewN | apply below_drew1) | exact HB.out)⟩⟩
    case rest =>
      clear HC11
      try clear c1
      try clear c2
      try clear p2
      try clear c4
      try clear c4b0
      try clear c4b1
      try clear c5
      try clear c18
      try clear c18b0
      try clear c18b1
      try clear c18b2
      try clear c19
      try clear c19b0
      try clear c19b1
      try clear c19b2
      try clear c20
      try clear c20b0
      try clear c20b1
      try clear c20b2
      obtain ⟨kq, x53_10, rfl, HA, HJ10, HO_7, HO_8, HO_9, HO_10, HB⟩ := hcut
      cases kq with
      | zero => exact absurd HA.out (by simp [sealringlaw29_FieldRules.j0])
      | succ kj10 =>
        have H := HA.out
        clear HA
        simp only [sealringlaw29_FieldRules.j0] at H
        by_cases c24 : x53_10 = true
        · subst c24
          have H1 : (some false) = some r := by rw [if_pos rfl] at H; exact H
          clear H
          have H := H1
          clear H1
          obtain rfl := Option.some.inj H
          go_wp2
          go_ret
          exact ⟨by first | rfl | (simp [errW_none, errW_some] <;> rfl) | (simp [*, errW_none, errW_some] <;> rfl), by repeat (first | (with_reducible first | exact HB.out | apply below_alloc | apply pw_below_drewN | apply below_drew1) | exact HB.out)⟩
        · replace c24 := Bool.eq_false_iff.mpr c24
          subst c24
          have H1 : (sealringlaw29_FieldRules.l0 kj10 a0 a1 t531 t534 t537 t540 l2 (l2.length : Int) 0) = some r := by rw [if_neg (show ¬ (false = true) by decide)] at H; exact H
          clear H
          have H := H1
          clear H1
          have H' := Aside0.mk H
          clear H
          go_wp2
          go_loopg [56] kj10 (fun kq v56 w' => ∃ (x56_2 : Int), v56 = .int .i64 x56_2 ∧ Aside0 (sealringlaw29_FieldRules.l0 kq a0 a1 t531 t534 t537 t540 l2 (l2.length : Int) x56_2 = some r) ∧ Aside0 (kq ≤ kj10) ∧ Aside0 (Kd.R k48 48 w' w.heap.size (fun k_ => some k_ ≠ ((.slice Ao16 t534.length co16) : Value).ownBlock ∧ some k_ ≠ (v538 : Value).ownBlock ∧ some k_ ≠ (v541 : Value).ownBlock) (.slice Ao14 t531.length co14) t531) ∧ Aside0 (Kd.R k48 48 w' w.heap.size (fun k_ => some k_ ≠ ((.slice Ao14 t531.length co14) : Value).ownBlock ∧ some k_ ≠ (v538 : Value).ownBlock ∧ some k_ ≠ (v541 : Value).ownBlock) (.slice Ao16 t534.length co16) t534) ∧ Aside0 (Kd.R k48 48 w' w.heap.size (fun k_ => some k_ ≠ ((.slice Ao14 t531.length co14) : Value).ownBlock ∧ some k_ ≠ ((.slice Ao16 t534.length co16) : Value).ownBlock ∧ some k_ ≠ (v541 : Value).ownBlock) v538 t537) ∧ Aside0 (Kd.R k48 48 w' w.heap.size (fun k_ => some k_ ≠ ((.slice Ao14 t531.length co14) : Value).ownBlock ∧ some k_ ≠ ((.slice Ao16 t534.length co16) : Value).ownBlock ∧ some k_ ≠ (v538 : Value).ownBlock) v541 t540) ∧ Aside0 (Below w.heap.size w w'))
          case atStart => exact ⟨(0), (by first | rfl | (simp; done) | (simp [*]; done)), (by first | with_reducible exact H' | exact H' | (subst_vars; exact H')), ⟨Nat.le_refl _⟩, ⟨by (with_reducible repeat (first | apply Kd.R_alloc | apply Kd.R_drewN | apply Kd.R_drew)); exact HO_7.out⟩, ⟨by (with_reducible repeat (first | apply Kd.R_alloc | apply Kd.R_drewN | apply Kd.R_drew)); exact HO_8.out⟩, ⟨by (with_reducible repeat (first | apply Kd.R_alloc | apply Kd.R_drewN | apply Kd.R_drew)); exact HO_9.out⟩, ⟨by (with_reducible repeat (first | apply Kd.R_alloc | apply Kd.R_drewN | apply Kd.R_drew)); exact HO_10.out⟩, ⟨by repeat (first | (with_reducible first | exact HB.out | apply below_alloc | apply pw_below_drewN | apply below_drew1) | exact HB.out)⟩⟩
          case round =>
            clear H'
            try clear c1
            try clear c2
            try clear p2
            try clear c4
            try clear c4b0
            try clear c4b1
            try clear c5
            try clear c18
            try clear c18b0
            try clear c18b1
            try clear c18b2
            try clear c19
            try clear c19b0
            try clear c19b1
            try clear c19b2
            try clear c20
            try clear c20b0
            try clear c20b1
            try clear c20b2
            try clear c24
            try clear p2
            obtain ⟨x56_2, rfl, HA, HK2, HO_7, HO_8, HO_9, HO_10, HB⟩ := hrel
            cases gk with
            | zero => exact absurd HA.out (by simp [sealringlaw29_FieldRules.l0])
            | succ k2 =>
              have H := HA.out
              clear HA
              simp only [sealringlaw29_FieldRules.l0] at H
              by_cases c25 : x56_2 < (l2.length : Int)
              · rw [if_pos c25] at H
                have c25b0 : decide (x56_2 < (l2.length : Int)) = true := decide_eq_true c25
                clear c25
                by_cases c26 : 0 ≤ x56_2
                · rw [if_pos c26] at H
                  have c26b0 : decide (0 ≤ x56_2) = true := decide_eq_true c26
                  clear c26
                  by_cases c27 : x56_2 < (l2.length : Int)
                  · rw [if_pos c27] at H
                    have c27b0 : decide (x56_2 < (l2.length : Int)) = true := decide_eq_true c27
                    clear c27
                    by_cases c28 : x56_2 < (t531.length : Int)
                    · rw [if_pos c28] at H
                      have c28b0 : decide (x56_2 < (t531.length : Int)) = true := decide_eq_true c28
                      clear c28
                      by_cases c29 : (!((((rd_T48 t531 x56_2).f0).toList) == ((rdOf ByteArray.empty l2 x56_2).toList)) || (!(((rd_T48 t531 x56_2).f1) == a0) || (!((rd_T48 t531 x56_2).f2) || (!(((rd_T48 t531 x56_2).f3) == 0) || (((rd_T48 t531 x56_2).f4)))))) = true
                      · rw [if_pos c29] at H
                        have c29b0 : (!((((rd_T48 t531 x56_2).f0).toList) == ((rdOf ByteArray.empty l2 x56_2).toList)) || (!(((rd_T48 t531 x56_2).f1) == a0) || (!((rd_T48 t531 x56_2).f2) || (!(((rd_T48 t531 x56_2).f3) == 0) || (((rd_T48 t531 x56_2).f4)))))) = true := c29
                        clear c29
                        obtain rfl := Option.some.inj H
                        have p543 : 0 ≤ (x56_2 : Int) := of_decide_eq_true (by first | (with_reducible assumption) | assumption)
                        have q543 : x56_2 < (l2.length : Int) := of_decide_eq_true (by first | (with_reducible assumption) | assumption)
                        obtain ⟨ad543, e543, hx543_0⟩ := Kd.at_string HR2.out x56_2 p543 q543
                        cases e543
                        (try replace hx543_0 := (HB.out.cell (World.block_lt_of_cell? w _ hx543_0)).trans hx543_0)
                        replace p543 := eq_true p543
                        replace q543 := eq_true q543
                        have p544 : 0 ≤ (x56_2 : Int) := of_decide_eq_true (by first | (with_reducible assumption) | assumption)
                        have q544 : x56_2 < (t531.length : Int) := of_decide_eq_true (by first | (with_reducible assumption) | assumption)
                        obtain ⟨ad544, e544, hx544_0, hx544_1, hx544_2, hx544_3, hx544_4⟩ := at_T48 (Kd.R_reads' HO_7.out).2.2 x56_2 p544 q544
                        cases e544
                        replace p544 := eq_true p544
                        replace q544 := eq_true q544
                        go_wp2
                        go_ret
                        exact ⟨by first | rfl | (simp [errW_none, errW_some] <;> rfl) | (simp [*, errW_none, errW_some] <;> rfl), by repeat (first | (with_reducible first | exact HB.out | apply below_alloc | apply pw_below_drewN | apply below_drew1) | exact HB.out)⟩
                      · rw [if_neg c29] at H
                        have c29b0 : (!((((rd_T48 t531 x56_2).f0).toList) == ((rdOf ByteArray.empty l2 x56_2).toList)) || (!(((rd_T48 t531 x56_2).f1) == a0) || (!((rd_T48 t531 x56_2).f2) || (!(((rd_T48 t531 x56_2).f3) == 0) || (((rd_T48 t531 x56_2).f4)))))) = false := by simpa using c29
                        clear c29
                        by_cases c30 : x56_2 < (t534.length : Int)
                        · rw [if_pos c30] at H
                          have c30b0 : decide (x56_2 < (t534.length : Int)) = true := decide_eq_true c30
                          clear c30
                          by_cases c31 : (!((((rd_T48 t534 x56_2).f0).toList) == ((rdOf ByteArray.empty l2 x56_2).toList)) || (!(((rd_T48 t534 x56_2).f1) == a0) || (((rd_T48 t534 x56_2).f2) || (!(((rd_T48 t534 x56_2).f3) == 0) || (((rd_T48 t534 x56_2).f4)))))) = true
                          · rw [if_pos c31] at H
                            have c31b0 : (!((((rd_T48 t534 x56_2).f0).toList) == ((rdOf ByteArray.empty l2 x56_2).toList)) || (!(((rd_T48 t534 x56_2).f1) == a0) || (((rd_T48 t534 x56_2).f2) || (!(((rd_T48 t534 x56_2).f3) == 0) || (((rd_T48 t534 x56_2).f4)))))) = true := c31
                            clear c31
                            obtain rfl := Option.some.inj H
                            have p543 : 0 ≤ (x56_2 : Int) := of_decide_eq_true (by first | (with_reducible assumption) | assumption)
                            have q543 : x56_2 < (l2.length : Int) := of_decide_eq_true (by first | (with_reducible assumption) | assumption)
                            obtain ⟨ad543, e543, hx543_0⟩ := Kd.at_string HR2.out x56_2 p543 q543
                            cases e543
                            (try replace hx543_0 := (HB.out.cell (World.block_lt_of_cell? w _ hx543_0)).trans hx543_0)
                            replace p543 := eq_true p543
                            replace q543 := eq_true q543
                            have p544 : 0 ≤ (x56_2 : Int) := of_decide_eq_true (by first | (with_reducible assumption) | assumption)
                            have q544 : x56_2 < (t531.length : Int) := of_decide_eq_true (by first | (with_reducible assumption) | assumption)
                            obtain ⟨ad544, e544, hx544_0, hx544_1, hx544_2, hx544_3, hx544_4⟩ := at_T48 (Kd.R_reads' HO_7.out).2.2 x56_2 p544 q544
                            cases e544
                            replace p544 := eq_true p544
                            replace q544 := eq_true q544
                            have p545 : 0 ≤ (x56_2 : Int) := of_decide_eq_true (by first | (with_reducible assumption) | assumption)
                            have q545 : x56_2 < (t534.length : Int) := of_decide_eq_true (by first | (with_reducible assumption) | assumption)
                            obtain ⟨ad545, e545, hx545_0, hx545_1, hx545_2, hx545_3, hx545_4⟩ := at_T48 (Kd.R_reads' HO_8.out).2.2 x56_2 p545 q545
                            cases e545
                            replace p545 := eq_true p545
                            replace q545 := eq_true q545
                            go_wp2
                            go_ret
                            exact ⟨by first | rfl | (simp [errW_none, errW_some] <;> rfl) | (simp [*, errW_none, errW_some] <;> rfl), by repeat (first | (with_reducible first | exact HB.out | apply below_alloc | apply pw_below_drewN | apply below_drew1) | exact HB.out)⟩
                          · rw [if_neg c31] at H
                            have c31b0 : (!((((rd_T48 t534 x56_2).f0).toList) == ((rdOf ByteArray.empty l2 x56_2).toList)) || (!(((rd_T48 t534 x56_2).f1) == a0) || (((rd_T48 t534 x56_2).f2) || (!(((rd_T48 t534 x56_2).f3) == 0) || (((rd_T48 t534 x56_2).f4)))))) = false := by simpa using c31
                            clear c31
                            by_cases c32 : x56_2 < (t537.length : Int)
                            · rw [if_pos c32] at H
                              have c32b0 : decide (x56_2 < (t537.length : Int)) = true := decide_eq_true c32
                              clear c32
                              by_cases c33 : (!((((rd_T48 t537 x56_2).f0).toList) == ((rdOf ByteArray.empty l2 x56_2).toList)) || (!(((rd_T48 t537 x56_2).f1) == a0) || (!((rd_T48 t537 x56_2).f2) || (!(((rd_T48 t537 x56_2).f3) == a1) || (((rd_T48 t537 x56_2).f4)))))) = true
                              · rw [if_pos c33] at H
                                have c33b0 : (!((((rd_T48 t537 x56_2).f0).toList) == ((rdOf ByteArray.empty l2 x56_2).toList)) || (!(((rd_T48 t537 x56_2).f1) == a0) || (!((rd_T48 t537 x56_2).f2) || (!(((rd_T48 t537 x56_2).f3) == a1) || (((rd_T48 t537 x56_2).f4)))))) = true := c33
                                clear c33
                                obtain rfl := Option.some.inj H
                                have p543 : 0 ≤ (x56_2 : Int) := of_decide_eq_true (by first | (with_reducible assumption) | assumption)
                                have q543 : x56_2 < (l2.length : Int) := of_decide_eq_true (by first | (with_reducible assumption) | assumption)
                                obtain ⟨ad543, e543, hx543_0⟩ := Kd.at_string HR2.out x56_2 p543 q543
                                cases e543
                                (try replace hx543_0 := (HB.out.cell (World.block_lt_of_cell? w _ hx543_0)).trans hx543_0)
                                replace p543 := eq_true p543
                                replace q543 := eq_true q543
                                have p544 : 0 ≤ (x56_2 : Int) := of_decide_eq_true (by first | (with_reducible assumption) | assumption)
                                have q544 : x56_2 < (t531.length : Int) := of_decide_eq_true (by first | (with_reducible assumption) | assumption)
                                obtain ⟨ad544, e544, hx544_0, hx544_1, hx544_2, hx544_3, hx544_4⟩ := at_T48 (Kd.R_reads' HO_7.out).2.2 x56_2 p544 q544
                                cases e544
                                replace p544 := eq_true p544
                                replace q544 := eq_true q544
                                have p545 : 0 ≤ (x56_2 : Int) := of_decide_eq_true (by first | (with_reducible assumption) | assumption)
                                have q545 : x56_2 < (t534.length : Int) := of_decide_eq_true (by first | (with_reducible assumption) | assumption)
                                obtain ⟨ad545, e545, hx545_0, hx545_1, hx545_2, hx545_3, hx545_4⟩ := at_T48 (Kd.R_reads' HO_8.out).2.2 x56_2 p545 q545
                                cases e545
                                replace p545 := eq_true p545
                                replace q545 := eq_true q545
                                obtain ⟨Ao34, co34, eo34⟩ := Kd.R_slice HO_9.out
                                subst eo34
                                have p546 : 0 ≤ (x56_2 : Int) := of_decide_eq_true (by first | (with_reducible assumption) | assumption)
                                have q546 : x56_2 < (t537.length : Int) := of_decide_eq_true (by first | (with_reducible assumption) | assumption)
                                obtain ⟨ad546, e546, hx546_0, hx546_1, hx546_2, hx546_3, hx546_4⟩ := at_T48 (Kd.R_reads' HO_9.out).2.2 x56_2 p546 q546
                                cases e546
                                replace p546 := eq_true p546
                                replace q546 := eq_true q546
                                go_wp2
                                go_ret
                                exact ⟨by first | rfl | (simp [errW_none, errW_some] <;> rfl) | (simp [*, errW_none, errW_some] <;> rfl), by repeat (first | (with_reducible first | exact HB.out | apply below_alloc | apply pw_below_drewN | apply below_drew1) | exact HB.out)⟩
                              · rw [if_neg c33] at H
                                have c33b0 : (!((((rd_T48 t537 x56_2).f0).toList) == ((rdOf ByteArray.empty l2 x56_2).toList)) || (!(((rd_T48 t537 x56_2).f1) == a0) || (!((rd_T48 t537 x56_2).f2) || (!(((rd_T48 t537 x56_2).f3) == a1) || (((rd_T48 t537 x56_2).f4)))))) = false := by simpa using c33
                                clear c33
                                by_cases c35 : x56_2 < (t540.length : Int)
                                · rw [if_pos c35] at H
                                  have c35b0 : decide (x56_2 < (t540.length : Int)) = true := decide_eq_true c35
                                  clear c35
                                  by_cases c36 : (!((((rd_T48 t540 x56_2).f0).toList) == ((rdOf ByteArray.empty l2 x56_2).toList)) || (!(((rd_T48 t540 x56_2).f1) == a0) || (((rd_T48 t540 x56_2).f2) || (!(((rd_T48 t540 x56_2).f3) == 0) || (!((rd_T48 t540 x56_2).f4)))))) = true
                                  · rw [if_pos c36] at H
                                    have c36b0 : (!((((rd_T48 t540 x56_2).f0).toList) == ((rdOf ByteArray.empty l2 x56_2).toList)) || (!(((rd_T48 t540 x56_2).f1) == a0) || (((rd_T48 t540 x56_2).f2) || (!(((rd_T48 t540 x56_2).f3) == 0) || (!((rd_T48 t540 x56_2).f4)))))) = true := c36
                                    clear c36
                                    obtain rfl := Option.some.inj H
                                    have p543 : 0 ≤ (x56_2 : Int) := of_decide_eq_true (by first | (with_reducible assumption) | assumption)
                                    have q543 : x56_2 < (l2.length : Int) := of_decide_eq_true (by first | (with_reducible assumption) | assumption)
                                    obtain ⟨ad543, e543, hx543_0⟩ := Kd.at_string HR2.out x56_2 p543 q543
                                    cases e543
                                    (try replace hx543_0 := (HB.out.cell (World.block_lt_of_cell? w _ hx543_0)).trans hx543_0)
                                    replace p543 := eq_true p543
                                    replace q543 := eq_true q543
                                    have p544 : 0 ≤ (x56_2 : Int) := of_decide_eq_true (by first | (with_reducible assumption) | assumption)
                                    have q544 : x56_2 < (t531.length : Int) := of_decide_eq_true (by first | (with_reducible assumption) | assumption)
                                    obtain ⟨ad544, e544, hx544_0, hx544_1, hx544_2, hx544_3, hx544_4⟩ := at_T48 (Kd.R_reads' HO_7.out).2.2 x56_2 p544 q544
                                    cases e544
                                    replace p544 := eq_true p544
                                    replace q544 := eq_true q544
                                    have p545 : 0 ≤ (x56_2 : Int) := of_decide_eq_true (by first | (with_reducible assumption) | assumption)
                                    have q545 : x56_2 < (t534.length : Int) := of_decide_eq_true (by first | (with_reducible assumption) | assumption)
                                    obtain ⟨ad545, e545, hx545_0, hx545_1, hx545_2, hx545_3, hx545_4⟩ := at_T48 (Kd.R_reads' HO_8.out).2.2 x56_2 p545 q545
                                    cases e545
                                    replace p545 := eq_true p545
                                    replace q545 := eq_true q545
                                    obtain ⟨Ao37, co37, eo37⟩ := Kd.R_slice HO_9.out
                                    subst eo37
                                    have p546 : 0 ≤ (x56_2 : Int) := of_decide_eq_true (by first | (with_reducible assumption) | assumption)
                                    have q546 : x56_2 < (t537.length : Int) := of_decide_eq_true (by first | (with_reducible assumption) | assumption)
                                    obtain ⟨ad546, e546, hx546_0, hx546_1, hx546_2, hx546_3, hx546_4⟩ := at_T48 (Kd.R_reads' HO_9.out).2.2 x56_2 p546 q546
                                    cases e546
                                    replace p546 := eq_true p546
                                    replace q546 := eq_true q546
                                    obtain ⟨Ao38, co38, eo38⟩ := Kd.R_slice HO_10.out
                                    subst eo38
                                    have p547 : 0 ≤ (x56_2 : Int) := of_decide_eq_true (by first | (with_reducible assumption) | assumption)
                                    have q547 : x56_2 < (t540.length : Int) := of_decide_eq_true (by first | (with_reducible assumption) | assumption)
                                    obtain ⟨ad547, e547, hx547_0, hx547_1, hx547_2, hx547_3, hx547_4⟩ := at_T48 (Kd.R_reads' HO_10.out).2.2 x56_2 p547 q547
                                    cases e547
                                    replace p547 := eq_true p547
                                    replace q547 := eq_true q547
                                    go_wp2
                                    go_ret
                                    exact ⟨by first | rfl | (simp [errW_none, errW_some] <;> rfl) | (simp [*, errW_none, errW_some] <;> rfl), by repeat (first | (with_reducible first | exact HB.out | apply below_alloc | apply pw_below_drewN | apply below_drew1) | exact HB.out)⟩
                                  · rw [if_neg c36] at H
                                    have c36b0 : (!((((rd_T48 t540 x56_2).f0).toList) == ((rdOf ByteArray.empty l2 x56_2).toList)) || (!(((rd_T48 t540 x56_2).f1) == a0) || (((rd_T48 t540 x56_2).f2) || (!(((rd_T48 t540 x56_2).f3) == 0) || (!((rd_T48 t540 x56_2).f4)))))) = false := by simpa using c36
                                    clear c36
                                    have H' := Aside0.mk H
                                    clear H
                                    have p543 : 0 ≤ (x56_2 : Int) := of_decide_eq_true (by first | (with_reducible assumption) | assumption)
                                    have q543 : x56_2 < (l2.length : Int) := of_decide_eq_true (by first | (with_reducible assumption) | assumption)
                                    obtain ⟨ad543, e543, hx543_0⟩ := Kd.at_string HR2.out x56_2 p543 q543
                                    cases e543
                                    (try replace hx543_0 := (HB.out.cell (World.block_lt_of_cell? w _ hx543_0)).trans hx543_0)
                                    replace p543 := eq_true p543
                                    replace q543 := eq_true q543
                                    have p544 : 0 ≤ (x56_2 : Int) := of_decide_eq_true (by first | (with_reducible assumption) | assumption)
                                    have q544 : x56_2 < (t531.length : Int) := of_decide_eq_true (by first | (with_reducible assumption) | assumption)
                                    obtain ⟨ad544, e544, hx544_0, hx544_1, hx544_2, hx544_3, hx544_4⟩ := at_T48 (Kd.R_reads' HO_7.out).2.2 x56_2 p544 q544
                                    cases e544
                                    replace p544 := eq_true p544
                                    replace q544 := eq_true q544
                                    have p545 : 0 ≤ (x56_2 : Int) := of_decide_eq_true (by first | (with_reducible assumption) | assumption)
                                    have q545 : x56_2 < (t534.length : Int) := of_decide_eq_true (by first | (with_reducible assumption) | assumption)
                                    obtain ⟨ad545, e545, hx545_0, hx545_1, hx545_2, hx545_3, hx545_4⟩ := at_T48 (Kd.R_reads' HO_8.out).2.2 x56_2 p545 q545
                                    cases e545
                                    replace p545 := eq_true p545
                                    replace q545 := eq_true q545
                                    obtain ⟨Ao39, co39, eo39⟩ := Kd.R_slice HO_9.out
                                    subst eo39
                                    have p546 : 0 ≤ (x56_2 : Int) := of_decide_eq_true (by first | (with_reducible assumption) | assumption)
                                    have q546 : x56_2 < (t537.length : Int) := of_decide_eq_true (by first | (with_reducible assumption) | assumption)
                                    obtain ⟨ad546, e546, hx546_0, hx546_1, hx546_2, hx546_3, hx546_4⟩ := at_T48 (Kd.R_reads' HO_9.out).2.2 x56_2 p546 q546
                                    cases e546
                                    replace p546 := eq_true p546
                                    replace q546 := eq_true q546
                                    obtain ⟨Ao40, co40, eo40⟩ := Kd.R_slice HO_10.out
                                    subst eo40
                                    have p547 : 0 ≤ (x56_2 : Int) := of_decide_eq_true (by first | (with_reducible assumption) | assumption)
                                    have q547 : x56_2 < (t540.length : Int) := of_decide_eq_true (by first | (with_reducible assumption) | assumption)
                                    obtain ⟨ad547, e547, hx547_0, hx547_1, hx547_2, hx547_3, hx547_4⟩ := at_T48 (Kd.R_reads' HO_10.out).2.2 x56_2 p547 q547
                                    cases e547
                                    replace p547 := eq_true p547
                                    replace q547 := eq_true q547
                                    go_wp2
                                    go_roundg k2
                                    case measure => have := HJ10.out; have := HK2.out; omega
                                    case rel => exact ⟨(wrap64 (x56_2 + 1)), (by first | rfl | (simp; done) | (simp [*]; done)), (by first | with_reducible exact H' | exact H' | (subst_vars; exact H')), ⟨by have := HJ10.out; have := HK2.out; omega⟩, ⟨by (with_reducible repeat (first | apply Kd.R_alloc | apply Kd.R_drewN | apply Kd.R_drew)); exact HO_7.out⟩, ⟨by (with_reducible repeat (first | apply Kd.R_alloc | apply Kd.R_drewN | apply Kd.R_drew)); exact HO_8.out⟩, ⟨by (with_reducible repeat (first | apply Kd.R_alloc | apply Kd.R_drewN | apply Kd.R_drew)); exact HO_9.out⟩, ⟨by (with_reducible repeat (first | apply Kd.R_alloc | apply Kd.R_drewN | apply Kd.R_drew)); exact HO_10.out⟩, ⟨by repeat (first | (with_reducible first | exact HB.out | apply below_alloc | apply pw_below_drewN | apply below_drew1) | exact HB.out)⟩⟩
                                · rw [if_neg c35] at H
                                  exact absurd H (by simp)
                            · rw [if_neg c32] at H
                              exact absurd H (by simp)
                        · rw [if_neg c30] at H
                          exact absurd H (by simp)
                    · rw [if_neg c28] at H
                      exact absurd H (by simp)
                  · rw [if_neg c27] at H
                    exact absurd H (by simp)
                · rw [if_neg c26] at H
                  exact absurd H (by simp)
              · rw [if_neg c25] at H
                have c25b0 : decide (x56_2 < (l2.length : Int)) = false := decide_eq_false c25
                clear c25
                replace H := Option.bind_eq_some_iff.mp H
                obtain ⟨t548, A410, H⟩ := H
                replace H : (some t548) = some r := H
                have A41 := Aside0.mk A410
                clear A410
                obtain rfl := Option.some.inj H
                go_wp2_with (first | ((with_reducible refine gate_callee (f := 25) rfl ?_); refine goesL_ (some 101) rfl rfl Try.func25 (by kernel_rfl) rfl #[] rfl (by (try simp only [List.map_toArray, List.map_cons, List.map_nil]); first | done | rfl | (simp only [List.length_drop, List.length_take]; rfl)) ?_; (with_reducible refine (sealringlaw29_lives.calls k2  t548 _ A41.out).mono ?_); rintro e w42 ⟨rfl, hb⟩; refine ⟨_, rfl, ?_⟩; have n0_ := Aside0.mk (Kd.R_below (by (with_reducible repeat (first | apply Kd.R_alloc | apply Kd.R_drewN | apply Kd.R_drew)); exact HO_7.out) hb); have n1_ := Aside0.mk (Kd.R_below (by (with_reducible repeat (first | apply Kd.R_alloc | apply Kd.R_drewN | apply Kd.R_drew)); exact HO_8.out) hb); have n2_ := Aside0.mk (Kd.R_below (by (with_reducible repeat (first | apply Kd.R_alloc | apply Kd.R_drewN | apply Kd.R_drew)); exact HO_9.out) hb); have n3_ := Aside0.mk (Kd.R_below (by (with_reducible repeat (first | apply Kd.R_alloc | apply Kd.R_drewN | apply Kd.R_drew)); exact HO_10.out) hb); have n4_ := Aside0.mk (below_step (by repeat (first | (with_reducible first | exact HB.out | apply below_alloc | apply pw_below_drewN | apply below_drew1) | exact HB.out)) hb); clear HO_7; clear HO_8; clear HO_9; clear HO_10; clear HB; have HO_7 := n0_; have HO_8 := n1_; have HO_9 := n2_; have HO_10 := n3_; have HB := n4_; clear n0_ n1_ n2_ n3_ n4_; (try clear hb); (try clear hb2); (try clear hk); (try clear hi)))
                go_ret
                exact ⟨by first | rfl | (simp [errW_none, errW_some] <;> rfl) | (simp [*, errW_none, errW_some] <;> rfl), by repeat (first | (with_reducible first | exact HB.out | apply below_alloc | apply pw_below_drewN | apply below_drew1) | exact HB.out)⟩
end Go.Proofs.Ytbnmcnghmnhigaa.X
end
