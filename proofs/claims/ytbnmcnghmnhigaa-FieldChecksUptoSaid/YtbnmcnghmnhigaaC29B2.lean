import Derived.Test.YtbnmcnghmnhigaaC29B1
import Derived.WalkKit
import Derived.Laws.MakeOwn
import Derived.OwnWalk
import Derived.WalkSpells
import Derived.Maps.Own
import Derived.Maps.OwnOps
import Derived.Maps.OwnSet
import Derived.Maps.Views
import Derived.Deep.RegionWith
import Derived.Lib.Hide
section
namespace Go.Proofs.Ytbnmcnghmnhigaa.X
open Go.RowKit Go.Proofs.YtbnmcnghmnhigaaW.PrintWords Go.Proofs.YtbnmcnghmnhigaaW.PrintLast Go.Proofs.YtbnmcnghmnhigaaW.PrintMore
attribute [local go_sem] max2_int min2_int max_two min_two max_three min_three max_four min_four
set_option linter.unusedVariables false
set_option linter.unusedSimpArgs false
mutual
def sealringref07_All.l0 : Nat → List (S25) → Int → Int → Int → ByteArray → List ByteArray → List (S25) → Option ((List (S25)))
  | 0, _, _, _, _, _, _, _ => none
  | k + 1, x3, x4, x105000, x105001, x105002, x105003, x105004 => if x4 < (x105004.length : Int) then (if 0 ≤ x4 then ((sealringref07_All.f k ((rd_T25 x105004 x4).f0) ((rd_T25 x105004 x4).f1) ((rd_T25 x105004 x4).f2) ((rd_T25 x105004 x4).f3) ((rd_T25 x105004 x4).f4)).bind fun t109 => (if x3.length + t109.length < 1759218604441 then (sealringref07_All.l0 k (x3 ++ t109) (wrap64 (x4 + 1)) x105000 x105001 x105002 x105003 x105004) else (none))) else (none)) else (some x3)
def sealringref07_All.f : Nat → Int → Int → ByteArray → List ByteArray → List (S25) → Option ((List (S25)))
  | 0, _, _, _, _, _ => none
  | k + 1, a0_0, a0_1, a0_2, l0_3, l0_4 => sealringref07_All.l0 k (([(⟨a0_0, a0_1, a0_2, l0_3, l0_4⟩ : S25)] : List (S25))) 0 a0_0 a0_1 a0_2 l0_3 l0_4
end
theorem sealringref07_All.mono_l : ∀ k, (∀ y0 y1 y2 y3 y4, LeO (sealringref07_All.f k y0 y1 y2 y3 y4) (sealringref07_All.f (k + 1) y0 y1 y2 y3 y4)) ∧ (∀ y0 y1 y2 y3 y4 y5 y6, LeO (sealringref07_All.l0 k y0 y1 y2 y3 y4 y5 y6) (sealringref07_All.l0 (k + 1) y0 y1 y2 y3 y4 y5 y6))
  | 0 => ⟨fun _ _ _ _ _ r h => by simp [sealringref07_All.f] at h, fun _ _ _ _ _ _ _ r h => by simp [sealringref07_All.l0] at h⟩
  | k + 1 => by
    obtain ⟨ih0, ih1⟩ := sealringref07_All.mono_l k
    refine ⟨?_, ?_⟩
    · intro y0 y1 y2 y3 y4
      unfold sealringref07_All.f
      repeat' first
      | (with_reducible exact ih0 _ _ _ _ _)
      | (with_reducible exact ih1 _ _ _ _ _ _ _)
      | (with_reducible exact LeO.refl _)
      | (with_reducible exact LeO.none _)
      | (with_reducible refine LeO.ite ?_ ?_)
      | (with_reducible refine LeO.bind ?_ (fun _ => ?_))
      | exact ih0 _ _ _ _ _
      | exact ih1 _ _ _ _ _ _ _
      | exact LeO.none _
      | refine LeO.ite ?_ ?_
      | refine LeO.bind ?_ (fun _ => ?_)
    · intro y0 y1 y2 y3 y4 y5 y6
      unfold sealringref07_All.l0
      repeat' first
      | (with_reducible exact ih0 _ _ _ _ _)
      | (with_reducible exact ih1 _ _ _ _ _ _ _)
      | (with_reducible exact LeO.refl _)
      | (with_reducible exact LeO.none _)
      | (with_reducible refine LeO.ite ?_ ?_)
      | (with_reducible refine LeO.bind ?_ (fun _ => ?_))
      | exact ih0 _ _ _ _ _
      | exact ih1 _ _ _ _ _ _ _
      | exact LeO.none _
      | refine LeO.ite ?_ ?_
      | refine LeO.bind ?_ (fun _ => ?_)
theorem sealringref07_All.mono : ∀ a0 a1 a2 a3 a4 k, LeO (sealringref07_All.f k a0 a1 a2 a3 a4) (sealringref07_All.f (k + 1) a0 a1 a2 a3 a4) := by
  intro a0 a1 a2 a3 a4 k
  obtain ⟨ih0, ih1⟩ := sealringref07_All.mono_l k
  exact ih0 a0 a1 a2 a3 a4
set_option maxHeartbeats 8000000 in
set_option maxRecDepth 100000 in
theorem sealringref07_All.calls (k : Nat) : ∀ (a0_0 : Int) (a0_1 : Int) (a0_2 : ByteArray) (P0_3_ : Nat → Prop) (A0_3 : Option Addr) (c0_3 : Nat) (l0_3 : List ByteArray) (P0_4_ : Nat → Prop) (A0_4 : Option Addr) (c0_4 : Nat) (l0_4 : List (S25)) (r : List (S25)) (w : World) (hs0_3 : Kd.V Kd.string 9 w w.heap.size (fun k_ => P0_3_ k_) (.slice A0_3 l0_3.length c0_3) l0_3) (hs0_4 : Kd.V k25 25 w w.heap.size (fun k_ => P0_4_ k_) (.slice A0_4 l0_4.length c0_4) l0_4) (h : sealringref07_All.f k a0_0 a0_1 a0_2 l0_3 l0_4 = some r),
    Calls Try.prog 51 #[.agg #[.int .i64 a0_0, .int .i64 a0_1, .string a0_2, .slice A0_3 l0_3.length c0_3, .slice A0_4 l0_4.length c0_4]] w fun e w' => ∃ v0_ : Value, e = .returned (v0_) ∧ Kd.N k25 25 w' w.heap.size (fun k_ => ((P0_3_ k_ ∨ P0_4_ k_) ∨ w.heap.size ≤ k_)) v0_ r ∧ Below w.heap.size w w' := by
  induction k using Nat.strongRecOn with
  | _ k ih =>
  intro a0_0 a0_1 a0_2 P0_3_ A0_3 c0_3 l0_3 P0_4_ A0_4 c0_4 l0_4 r w hs0_3 hs0_4 h
  cases k with
  | zero => exact absurd h (by simp [sealringref07_All.f])
  | succ k =>
  simp only [sealringref07_All.f] at h
  have hu25 := Try.underlying25
  have HO0_3 := Aside0.mk (show Kd.V Kd.string 9 w w.heap.size (fun k_ => ((P0_3_ k_ ∨ P0_4_ k_) ∨ w.heap.size ≤ k_)) (.slice A0_3 l0_3.length c0_3) l0_3 from Kd.V_mono hs0_3 (fun k_ hk => .inl (.inl hk)))
  have HO0_4 := Aside0.mk (show Kd.V k25 25 w w.heap.size (fun k_ => ((P0_3_ k_ ∨ P0_4_ k_) ∨ w.heap.size ≤ k_)) (.slice A0_4 l0_4.length c0_4) l0_4 from Kd.V_mono hs0_4 (fun k_ hk => .inl (.inr hk)))
  have HB := Aside0.mk (Below.refl w.heap.size w)
  have H : (sealringref07_All.l0 k (([(⟨a0_0, a0_1, a0_2, l0_3, l0_4⟩ : S25)] : List (S25))) 0 a0_0 a0_1 a0_2 l0_3 l0_4) = some r := h
  clear h
  obtain ⟨y105, hy105⟩ : ∃ y_ : List (S25), y_ = (([(⟨a0_0, a0_1, a0_2, l0_3, l0_4⟩ : S25)] : List (S25))) := ⟨_, rfl⟩
  replace H : (sealringref07_All.l0 k y105 0 a0_0 a0_1 a0_2 l0_3 l0_4) = some r := by first | (rw [hy105]; with_reducible exact H) | (have H2_ := (Option.bind_some _ _).symm.trans H; rw [hy105]; with_reducible exact H2_) | (have H2_ := (Option.bind_some _ _).symm.trans H; with_reducible exact H2_) | with_reducible exact H | (rw [hy105]; exact H) | exact H
  have Ny105 := Aside0.mk hy105
  clear hy105
  have H' := Aside0.mk H
  clear H
  go_enter Try.func51, Try.ntmps51
  go_wp2_with (first | ((with_reducible refine gate_dst (N := 1) rfl ?_); refine box_event ?hg (N := 1) ?hd (cs := #[.int .i64 a0_0, .int .i64 a0_1, .string a0_2, .slice A0_3 l0_3.length c0_3, .slice A0_4 l0_4.length c0_4]) (t := 25) ?hr ?_; (case hd => rfl); (case hg => rfl); (case hr => first | (go_simp; done) | (go_simp; rfl)); intro gb104 hg w2 hbox hb; have n0_ := Aside0.mk (Kd.V_below (Kd.V_elderB (by (with_reducible repeat (first | apply Kd.V_alloc | apply Kd.V_drewN | apply Kd.V_drew)); exact HO0_3.out) gb104 (Nat.le_of_eq hg.symm)) hb); have n1_ := Aside0.mk (Kd.V_below (Kd.V_elderB (by (with_reducible repeat (first | apply Kd.V_alloc | apply Kd.V_drewN | apply Kd.V_drew)); exact HO0_4.out) gb104 (Nat.le_of_eq hg.symm)) hb); have n2_ := Aside0.mk (below_step (by repeat (first | (with_reducible first | exact HB.out | apply below_alloc | apply pw_below_drewN | apply below_drew1) | exact HB.out)) hb); have n3_ := Aside0.mk (hbox); have n4_ := Aside0.mk ((by rw [hg]; exact (below_size (by repeat (first | (with_reducible first | exact HB.out | apply below_alloc | apply pw_below_drewN | apply below_drew1) | exact HB.out))) : w.heap.size ≤ gb104)); have n5_ := Aside0.mk ((by rw [hg]; exact (below_size (by repeat (first | (with_reducible first | exact HB.out | apply below_alloc | apply pw_below_drewN | apply below_drew1) | exact HB.out))) : w.heap.size ≤ gb104)); clear HO0_3; clear HO0_4; clear HB; have HO0_3 := n0_; have HO0_4 := n1_; have HB := n2_; have BK104 := n3_; have GW104 := n4_; have GE104 := n5_; clear n0_ n1_ n2_ n3_ n4_ n5_; clear hb hbox hg; have hcz3_0 : w2.cell? ⟨gb104, 0, none⟩ = some (.int .i64 a0_0) := (blk_cell BK104.out 0).trans rfl; have hcz3_1 : w2.cell? ⟨gb104, 1, none⟩ = some (.int .i64 a0_1) := (blk_cell BK104.out 1).trans rfl; have hcz3_2 : w2.cell? ⟨gb104, 2, none⟩ = some (.string a0_2) := (blk_cell BK104.out 2).trans rfl; have hcz3_3 : w2.cell? ⟨gb104, 3, none⟩ = some (.slice A0_3 l0_3.length c0_3) := (blk_cell BK104.out 3).trans rfl; have hcz3_4 : w2.cell? ⟨gb104, 4, none⟩ = some (.slice A0_4 l0_4.length c0_4) := (blk_cell BK104.out 4).trans rfl; have hfz3_0 := blk_frozen BK104.out 0; have hfz3_1 := blk_frozen BK104.out 1; have hfz3_2 := blk_frozen BK104.out 2; have hfz3_3 := blk_frozen BK104.out 3; have hfz3_4 := blk_frozen BK104.out 4) | ((with_reducible refine gate_dst (N := 6) rfl ?_); refine Kd.N_lit k25 _ 25 ?hg (N' := 6) ?hd (xs := ([(⟨a0_0, a0_1, a0_2, l0_3, l0_4⟩ : S25)] : List (S25))) (inner := [.int .i64 a0_0, .int .i64 a0_1, .string a0_2, .slice A0_3 l0_3.length c0_3, .slice A0_4 l0_4.length c0_4]) (ok := (fun k_ => ((P0_3_ k_ ∨ P0_4_ k_) ∨ w.heap.size ≤ k_) ∧ k_ ≠ gb104)) (okp := (fun k_ => ((P0_3_ k_ ∨ P0_4_ k_) ∨ w.heap.size ≤ k_) ∧ k_ ≠ gb104)) ?hr ?hp (fun _ hk => hk) ((show ∀ k_, w2.heap.size ≤ k_ → (fun k_ => ((P0_3_ k_ ∨ P0_4_ k_) ∨ w.heap.size ≤ k_) ∧ k_ ≠ gb104) k_ from fun k_ hk => ⟨(.inr (Nat.le_trans (below_size (by repeat (first | (with_reducible first | exact HB.out | apply below_alloc | apply pw_below_drewN | apply below_drew1 | refine below_set ?_ GE104.out) | exact HB.out))) hk)), Kd.freshB (g := gb104) (o := .cells #[.int .i64 a0_0, .int .i64 a0_1, .string a0_2, .slice A0_3 l0_3.length c0_3, .slice A0_4 l0_4.length c0_4] 25 (0, 0)) (by (with_reducible repeat (first | refine blk_drewN ?_ _ | refine blk_drew ?_ | refine blk_alloc ?_ _)); exact BK104.out) k_ hk⟩) _ (Nat.le_refl _)) (Below.refl _ _) (Nat.le_refl _) (by simp) ?_; (case hd => rfl); (case hg => rfl); (case hr => first | (go_simp; done) | (go_simp; rfl)); (case hp => exact (Reps.c5 (show Kd.FK k25 _ _ (⟨a0_0, a0_1, a0_2, l0_3, l0_4⟩ : S25) [.int .i64 a0_0, .int .i64 a0_1, .string a0_2, .slice A0_3 l0_3.length c0_3, .slice A0_4 l0_4.length c0_4] from (k25_mkF _ _ (⟨a0_0, a0_1, a0_2, l0_3, l0_4⟩ : S25) (Kd.V_reads' (Kd.V_mono (ok' := (fun k_ => ((P0_3_ k_ ∨ P0_4_ k_) ∨ w.heap.size ≤ k_) ∧ k_ ≠ gb104)) (HO0_3.out) (fun k_ hk => ⟨hk.1, hk.2⟩))).2.1 (Kd.V_F (Kd.V_mono (ok' := (fun k_ => ((P0_3_ k_ ∨ P0_4_ k_) ∨ w.heap.size ≤ k_) ∧ k_ ≠ gb104)) (HO0_3.out) (fun k_ hk => ⟨hk.1, hk.2⟩))) (Kd.V_reads' (Kd.V_mono (ok' := (fun k_ => ((P0_3_ k_ ∨ P0_4_ k_) ∨ w.heap.size ≤ k_) ∧ k_ ≠ gb104)) (HO0_4.out) (fun k_ hk => ⟨hk.1, hk.2⟩))).2.1 (Kd.V_F (Kd.V_mono (ok' := (fun k_ => ((P0_3_ k_ ∨ P0_4_ k_) ∨ w.heap.size ≤ k_) ∧ k_ ≠ gb104)) (HO0_4.out) (fun k_ hk => ⟨hk.1, hk.2⟩))))) (Reps.none _ _))); intro v106 w4 ho5 hb hg_ hnew_; clear hg_ hnew_; (first | rw [← Ny105.out] at ho5 | (simp only [Int.reduceToNat] at ho5; rw [← Ny105.out] at ho5)); have n0_ := Aside0.mk (Kd.V_elder' (by (with_reducible repeat (first | apply Kd.V_alloc | apply Kd.V_drewN | apply Kd.V_drew)); exact HO0_3.out) (by first | exact Kd.N_base ho5 | exact Kd.N_base (Kd.R_N (Kd.R_bound ho5)) | exact Kd.N_base (Kd.R_N ho5)) hb); have n1_ := Aside0.mk (Kd.V_elder' (by (with_reducible repeat (first | apply Kd.V_alloc | apply Kd.V_drewN | apply Kd.V_drew)); exact HO0_4.out) (by first | exact Kd.N_base ho5 | exact Kd.N_base (Kd.R_N (Kd.R_bound ho5)) | exact Kd.N_base (Kd.R_N ho5)) hb); have n2_ := Aside0.mk (Kd.N_lower ho5 (below_size (by repeat (first | (with_reducible first | exact HB.out | apply below_alloc | apply pw_below_drewN | apply below_drew1 | refine below_set ?_ GE104.out) | exact HB.out)))); have n3_ := Aside0.mk (blk_below (g := gb104) (o := .cells #[.int .i64 a0_0, .int .i64 a0_1, .string a0_2, .slice A0_3 l0_3.length c0_3, .slice A0_4 l0_4.length c0_4] 25 (0, 0)) (by (with_reducible repeat (first | refine blk_drewN ?_ _ | refine blk_drew ?_ | refine blk_alloc ?_ _)); exact BK104.out) hb); have n4_ := Aside0.mk (below_step (by repeat (first | (with_reducible first | exact HB.out | apply below_alloc | apply pw_below_drewN | apply below_drew1 | refine below_set ?_ GE104.out) | exact HB.out)) hb); clear HO0_3; clear HO0_4; clear BK104; clear HB; have HO0_3 := n0_; have HO0_4 := n1_; have HO107 := n2_; have BK104 := n3_; have HB := n4_; clear n0_ n1_ n2_ n3_ n4_; clear hb ho5))
  go_loopg [3, 4] k (fun kq v3 v4 w' => ∃ (x3_1 : List (S25)) (x4_1 : Int), v4 = .int .i64 x4_1 ∧ Aside0 (sealringref07_All.l0 kq x3_1 x4_1 a0_0 a0_1 a0_2 l0_3 l0_4 = some r) ∧ Aside0 (kq ≤ k) ∧ Aside0 (Kd.N k25 25 w' w.heap.size (fun k_ => ((P0_3_ k_ ∨ P0_4_ k_) ∨ w.heap.size ≤ k_) ∧ k_ ≠ gb104) v3 x3_1) ∧ Aside0 (Kd.V Kd.string 9 w' w.heap.size (fun k_ => ((P0_3_ k_ ∨ P0_4_ k_) ∨ w.heap.size ≤ k_) ∧ some k_ ≠ (v3 : Value).ownBlock ∧ k_ ≠ gb104) (.slice A0_3 l0_3.length c0_3) l0_3) ∧ Aside0 (Kd.V k25 25 w' w.heap.size (fun k_ => ((P0_3_ k_ ∨ P0_4_ k_) ∨ w.heap.size ≤ k_) ∧ some k_ ≠ (v3 : Value).ownBlock ∧ k_ ≠ gb104) (.slice A0_4 l0_4.length c0_4) l0_4) ∧ Aside0 (w'.heap[gb104]? = some (.cells #[.int .i64 a0_0, .int .i64 a0_1, .string a0_2, (.slice A0_3 l0_3.length c0_3), (.slice A0_4 l0_4.length c0_4)] 25 (0, 0))) ∧ Aside0 (Below w.heap.size w w'))
  case atStart => exact ⟨(y105), (0), (by first | rfl | (simp; done) | (simp [*]; done)), (by first | with_reducible exact H' | exact H' | (subst_vars; exact H')), ⟨Nat.le_refl _⟩, ⟨by (with_reducible repeat (first | apply Kd.N_alloc | apply Kd.N_drewN | apply Kd.N_drew)); exact HO107.out⟩, ⟨by (with_reducible repeat (first | apply Kd.V_alloc | apply Kd.V_drewN | apply Kd.V_drew)); exact Kd.V_mono HO0_3.out (fun _ hk => ⟨hk.1.1, ⟨hk.2, hk.1.2⟩⟩)⟩, ⟨by (with_reducible repeat (first | apply Kd.V_alloc | apply Kd.V_drewN | apply Kd.V_drew)); exact Kd.V_mono HO0_4.out (fun _ hk => ⟨hk.1.1, ⟨hk.2, hk.1.2⟩⟩)⟩, ⟨by (with_reducible repeat (first | refine blk_drewN ?_ _ | refine blk_drew ?_ | refine blk_alloc ?_ _)); exact BK104.out⟩, ⟨by repeat (first | (with_reducible first | exact HB.out | apply below_alloc | apply pw_below_drewN | apply below_drew1 | refine below_set ?_ GE104.out) | exact HB.out)⟩⟩
  case round =>
    clear H'
    try clear p2
    try clear c5
    try clear hcz3_0
    try clear hcz3_1
    try clear hcz3_2
    try clear hcz3_3
    try clear hcz3_4
    try clear hfz3_0
    try clear hfz3_1
    try clear hfz3_2
    try clear hfz3_3
    try clear hfz3_4
    obtain ⟨x3_1, x4_1, rfl, HA, HK1, HO_3, HO_105003, HO_105004, BK104, HB⟩ := hrel
    cases gk with
    | zero => exact absurd HA.out (by simp [sealringref07_All.l0])
    | succ k1 =>
      have H := HA.out
      clear HA
      simp only [sealringref07_All.l0] at H
      by_cases c6 : x4_1 < (l0_4.length : Int)
      · rw [if_pos c6] at H
        have c6b0 : decide (x4_1 < (l0_4.length : Int)) = true := decide_eq_true c6
        clear c6
        by_cases c7 : 0 ≤ x4_1
        · rw [if_pos c7] at H
          have c7b0 : decide (0 ≤ x4_1) = true := decide_eq_true c7
          clear c7
          replace H := Option.bind_eq_some_iff.mp H
          obtain ⟨t109, A80, H⟩ := H
          replace H : (if x3_1.length + t109.length < 1759218604441 then (sealringref07_All.l0 k1 (x3_1 ++ t109) (wrap64 (x4_1 + 1)) a0_0 a0_1 a0_2 l0_3 l0_4) else (none)) = some r := H
          have A8 := Aside0.mk A80
          clear A80
          by_cases c9 : x3_1.length + t109.length < 1759218604441
          · rw [if_pos c9] at H
            have LMc9 := Aside0.mk c9
            clear c9
            obtain ⟨y112, hy112⟩ : ∃ y_ : List (S25), y_ = (x3_1 ++ t109) := ⟨_, rfl⟩
            replace H : (sealringref07_All.l0 k1 y112 (wrap64 (x4_1 + 1)) a0_0 a0_1 a0_2 l0_3 l0_4) = some r := by first | (rw [hy112]; with_reducible exact H) | (have H2_ := (Option.bind_some _ _).symm.trans H; rw [hy112]; with_reducible exact H2_) | (have H2_ := (Option.bind_some _ _).symm.trans H; with_reducible exact H2_) | with_reducible exact H | (rw [hy112]; exact H) | exact H
            have Ny112 := Aside0.mk hy112
            clear hy112
            have H' := Aside0.mk H
            clear H
            have hcz10_0 : wr.cell? ⟨gb104, 0, none⟩ = some (.int .i64 a0_0) := (blk_cell BK104.out 0).trans rfl
            have hcz10_1 : wr.cell? ⟨gb104, 1, none⟩ = some (.int .i64 a0_1) := (blk_cell BK104.out 1).trans rfl
            have hcz10_2 : wr.cell? ⟨gb104, 2, none⟩ = some (.string a0_2) := (blk_cell BK104.out 2).trans rfl
            have hcz10_3 : wr.cell? ⟨gb104, 3, none⟩ = some (.slice A0_3 l0_3.length c0_3) := (blk_cell BK104.out 3).trans rfl
            have hcz10_4 : wr.cell? ⟨gb104, 4, none⟩ = some (.slice A0_4 l0_4.length c0_4) := (blk_cell BK104.out 4).trans rfl
            have hfz10_0 := blk_frozen BK104.out 0
            have hfz10_1 := blk_frozen BK104.out 1
            have hfz10_2 := blk_frozen BK104.out 2
            have hfz10_3 := blk_frozen BK104.out 3
            have hfz10_4 := blk_frozen BK104.out 4
            have p108 : 0 ≤ (x4_1 : Int) := of_decide_eq_true (by first | (with_reducible assumption) | assumption)
            have q108 : x4_1 < (l0_4.length : Int) := of_decide_eq_true (by first | (with_reducible assumption) | assumption)
            obtain ⟨ad108, A108_3, c108_3, A108_4, c108_4, e108, hx108_0, hx108_1, hx108_2, hx108_3, hx108_4, hl108_3, hi108_3, hl108_4, hi108_4⟩ := at_T25 (Kd.V_reads' HO_105004.out).2.2 x4_1 p108 q108
            cases e108
            obtain ⟨ce108, hce108, hMe108, hcc108⟩ := Kd.V_get HO_105004.out z25 x4_1 p108 (by first | exact q108 | exact of_decide_eq_true (by first | (with_reducible assumption) | assumption) | (have e_ := (Kd.V_reads' HO_105004.out).1; omega))
            obtain ⟨ua108_3, uc108_3, ua108_4, uc108_4, rfl, ul108_3, ge108_3, ul108_4, ge108_4⟩ := k25_openF hMe108
            have hv108_3 := hcc108 3 _ rfl
            rw [add_field _ _ 3 (by omega)] at hv108_3
            replace hv108_3 := Option.some.inj (hv108_3.symm.trans hx108_3)
            injection hv108_3 with hva_ hvn_ hvc_
            rw [hva_] at ge108_3
            rw [hvc_] at ul108_3
            have HL108_3 := Aside0.mk (show Kd.V Kd.string 9 _ w.heap.size _ _ ((rd_T25 l0_4 x4_1).f3) from Kd.V_mk ul108_3 ge108_3)
            clear hva_ hvn_ hvc_ ge108_3 ul108_3
            have hv108_4 := hcc108 4 _ rfl
            rw [add_field _ _ 4 (by omega)] at hv108_4
            replace hv108_4 := Option.some.inj (hv108_4.symm.trans hx108_4)
            injection hv108_4 with hva_ hvn_ hvc_
            rw [hva_] at ge108_4
            rw [hvc_] at ul108_4
            have HL108_4 := Aside0.mk (show Kd.V k25 25 _ w.heap.size _ _ ((rd_T25 l0_4 x4_1).f4) from Kd.V_mk ul108_4 ge108_4)
            clear hva_ hvn_ hvc_ ge108_4 ul108_4
            clear hcc108 hce108
            have HR108_3 := Aside0.mk hi108_3
            have HC108_3 := Aside0.mk hl108_3
            clear hi108_3 hl108_3
            have HR108_4 := Aside0.mk hi108_4
            have HC108_4 := Aside0.mk hl108_4
            clear hi108_4 hl108_4
            replace p108 := eq_true p108
            replace q108 := eq_true q108
            go_wp2_with (first | ((with_reducible refine gate_callee (f := 51) rfl ?_); refine goesL_ (some 20) rfl rfl Try.func51 (by kernel_rfl) rfl #[.agg #[.int .i64 ((rd_T25 l0_4 x4_1).f0), .int .i64 ((rd_T25 l0_4 x4_1).f1), .string ((rd_T25 l0_4 x4_1).f2), .slice A108_3 ((rd_T25 l0_4 x4_1).f3).length c108_3, .slice A108_4 ((rd_T25 l0_4 x4_1).f4).length c108_4]] rfl (by (try simp only [List.map_toArray, List.map_cons, List.map_nil]); first | done | rfl | (simp only [List.length_drop, List.length_take]; rfl)) ?_; (with_reducible refine (ih k1 (by have := HK1.out; omega) ((rd_T25 l0_4 x4_1).f0) ((rd_T25 l0_4 x4_1).f1) ((rd_T25 l0_4 x4_1).f2) (fun k_ => (((P0_3_ k_ ∨ P0_4_ k_) ∨ w.heap.size ≤ k_) ∧ (some k_ ≠ (u3 : Value).ownBlock ∧ k_ ≠ gb104))) _ _ ((rd_T25 l0_4 x4_1).f3) (fun k_ => (((P0_3_ k_ ∨ P0_4_ k_) ∨ w.heap.size ≤ k_) ∧ (some k_ ≠ (u3 : Value).ownBlock ∧ k_ ≠ gb104))) _ _ ((rd_T25 l0_4 x4_1).f4) t109 _ ?side1 ?side2 A8.out).mono ?_); (case side1 => exact HL108_3.out); (case side2 => exact HL108_4.out); rintro e w11 ⟨v110, rfl, ho0, hb⟩; refine ⟨_, rfl, ?_⟩; have n0_ := Aside0.mk (Kd.N_elder' (by (with_reducible repeat (first | apply Kd.N_alloc | apply Kd.N_drewN | apply Kd.N_drew)); exact HO_3.out) (by first | exact Kd.N_base ho0 | exact Kd.N_base (Kd.R_N (Kd.R_bound ho0)) | exact Kd.N_base (Kd.R_N ho0)) hb); have n1_ := Aside0.mk (Kd.V_elder' (by (with_reducible repeat (first | apply Kd.V_alloc | apply Kd.V_drewN | apply Kd.V_drew)); exact HO_105003.out) (by first | exact Kd.N_base ho0 | exact Kd.N_base (Kd.R_N (Kd.R_bound ho0)) | exact Kd.N_base (Kd.R_N ho0)) hb); have n2_ := Aside0.mk (Kd.V_elder' (by (with_reducible repeat (first | apply Kd.V_alloc | apply Kd.V_drewN | apply Kd.V_drew)); exact HO_105004.out) (by first | exact Kd.N_base ho0 | exact Kd.N_base (Kd.R_N (Kd.R_bound ho0)) | exact Kd.N_base (Kd.R_N ho0)) hb); have n3_ := Aside0.mk (Kd.V_elder' (by (with_reducible repeat (first | apply Kd.V_alloc | apply Kd.V_drewN | apply Kd.V_drew)); exact HL108_3.out) (by first | exact Kd.N_base ho0 | exact Kd.N_base (Kd.R_N (Kd.R_bound ho0)) | exact Kd.N_base (Kd.R_N ho0)) hb); have n4_ := Aside0.mk (Kd.V_elder' (by (with_reducible repeat (first | apply Kd.V_alloc | apply Kd.V_drewN | apply Kd.V_drew)); exact HL108_4.out) (by first | exact Kd.N_base ho0 | exact Kd.N_base (Kd.R_N (Kd.R_bound ho0)) | exact Kd.N_base (Kd.R_N ho0)) hb); have n5_ := Aside0.mk (Kd.N_lower (Kd.N_mono (ok' := fun k_ => ((P0_3_ k_ ∨ P0_4_ k_) ∨ w.heap.size ≤ k_) ∧ some k_ ≠ (u3 : Value).ownBlock ∧ k_ ≠ gb104) ho0 (fun k_ hk_ => ⟨Or.elim hk_ (fun hs_ => Or.elim hs_ (fun hs_ => hs_.1) (fun hs_ => hs_.1)) (fun hn_ => (.inr (Nat.le_trans (below_size (by repeat (first | (with_reducible first | exact HB.out | apply below_alloc | apply pw_below_drewN | apply below_drew1 | refine below_set ?_ GE104.out) | exact HB.out))) hn_))), Or.elim hk_ (fun hs_ => Or.elim hs_ (fun hs_ => hs_.2.1) (fun hs_ => hs_.2.1)) (fun hn_ => (Kd.fresh' (Kd.N_lt (by (with_reducible repeat (first | apply Kd.N_alloc | apply Kd.N_drewN | apply Kd.N_drew)); exact HO_3.out)) k_ hn_)), Or.elim hk_ (fun hs_ => Or.elim hs_ (fun hs_ => hs_.2.2) (fun hs_ => hs_.2.2)) (fun hn_ => (Kd.freshB (g := gb104) (o := .cells #[.int .i64 a0_0, .int .i64 a0_1, .string a0_2, .slice A0_3 l0_3.length c0_3, .slice (some ad108) l0_4.length c0_4] 25 (0, 0)) (by (with_reducible repeat (first | refine blk_drewN ?_ _ | refine blk_drew ?_ | refine blk_alloc ?_ _)); exact BK104.out) k_ hn_))⟩)) (below_size (by repeat (first | (with_reducible first | exact HB.out | apply below_alloc | apply pw_below_drewN | apply below_drew1 | refine below_set ?_ GE104.out) | exact HB.out)))); have n6_ := Aside0.mk (blk_below (g := gb104) (o := .cells #[.int .i64 a0_0, .int .i64 a0_1, .string a0_2, .slice A0_3 l0_3.length c0_3, .slice (some ad108) l0_4.length c0_4] 25 (0, 0)) (by (with_reducible repeat (first | refine blk_drewN ?_ _ | refine blk_drew ?_ | refine blk_alloc ?_ _)); exact BK104.out) hb); have n7_ := Aside0.mk (Kd.C_below (by repeat (first | (with_reducible exact HR108_3.out) | (with_reducible refine Kd.C_alloc ?_ _) | (with_reducible refine Kd.C_drewN ?_ _) | (with_reducible refine Kd.C_drew ?_) | exact HR108_3.out)) hb); have n8_ := Aside0.mk (Kd.C_below (by repeat (first | (with_reducible exact HR108_4.out) | (with_reducible refine Kd.C_alloc ?_ _) | (with_reducible refine Kd.C_drewN ?_ _) | (with_reducible refine Kd.C_drew ?_) | exact HR108_4.out)) hb); have n9_ := Aside0.mk (below_step (by repeat (first | (with_reducible first | exact HB.out | apply below_alloc | apply pw_below_drewN | apply below_drew1 | refine below_set ?_ GE104.out) | exact HB.out)) hb); clear HO_3; clear HO_105003; clear HO_105004; clear HL108_3; clear HL108_4; clear BK104; clear HR108_3; clear HR108_4; clear HB; have HO_3 := n0_; have HO_105003 := n1_; have HO_105004 := n2_; have HL108_3 := n3_; have HL108_4 := n4_; have HO111 := n5_; have BK104 := n6_; have HR108_3 := n7_; have HR108_4 := n8_; have HB := n9_; clear n0_ n1_ n2_ n3_ n4_ n5_ n6_ n7_ n8_ n9_; (try clear hb); (try clear hb2); (try clear hk); (try clear hi); (try clear ho0); obtain ⟨Ao13, co13, eo13⟩ := Kd.N_slice HO111.out; subst eo13) | ((with_reducible refine gate_builtin (b := .append) (xs := #[.tmp 14, .tmp 20]) rfl ?_); at_builtin; refine Kd.N_append_rows k25 (w0 := w) w.heap.size rfl (.tmp 14) (.tmp 20) 23 25 (.agg #[(.int .i64 0), (.int .i64 0), (.string ⟨#[]⟩), (.slice none 0 0), (.slice none 0 0)]) 80 rfl Try.underlying23 info25 rfl (by decide) (by omega) u3 x3_1 t109 _ _ _ (fun k_ => ((P0_3_ k_ ∨ P0_4_ k_) ∨ w.heap.size ≤ k_) ∧ k_ ≠ gb104) (fun k_ => ((fun k_ => ((P0_3_ k_ ∨ P0_4_ k_) ∨ w.heap.size ≤ k_) ∧ k_ ≠ gb104)) k_ ∧ some k_ ≠ (u3 : Value).ownBlock) rfl rfl ?aO ?aR (fun _ hk => hk) ?aF ?aB ?aS ?aL ?_; (case aR => exact (by skip; exact Kd.N_F (Kd.N_mono (ok' := (fun k_ => ((fun k_ => ((P0_3_ k_ ∨ P0_4_ k_) ∨ w.heap.size ≤ k_) ∧ k_ ≠ gb104)) k_ ∧ some k_ ≠ (u3 : Value).ownBlock)) (HO111.out) (fun k_ hk => ⟨⟨hk.1, hk.2.2⟩, hk.2.1⟩)))); (case aB => exact (by repeat (first | (with_reducible first | exact HB.out | apply below_alloc | apply pw_below_drewN | apply below_drew1 | refine below_set ?_ GE104.out) | exact HB.out))); (case aF => exact (fun k_ hk => ⟨(.inr (Nat.le_trans (below_size (by repeat (first | (with_reducible first | exact HB.out | apply below_alloc | apply pw_below_drewN | apply below_drew1 | refine below_set ?_ GE104.out) | exact HB.out))) hk)), Kd.freshB (g := gb104) (o := .cells #[.int .i64 a0_0, .int .i64 a0_1, .string a0_2, .slice A0_3 l0_3.length c0_3, .slice (some ad108) l0_4.length c0_4] 25 (0, 0)) (by (with_reducible repeat (first | refine blk_drewN ?_ _ | refine blk_drew ?_ | refine blk_alloc ?_ _)); exact BK104.out) k_ hk⟩)); (case aO => exact (by (with_reducible repeat (first | apply Kd.N_alloc | apply Kd.N_drewN | apply Kd.N_drew)); exact Kd.N_mono HO_3.out (fun _ hk => ⟨hk.1.1, hk.1.2⟩))); (case aS => exact (below_size (by repeat (first | (with_reducible first | exact HB.out | apply below_alloc | apply pw_below_drewN | apply below_drew1 | refine below_set ?_ GE104.out) | exact HB.out)))); (case aL => have := LMc9.out; omega); intro v113 w12 ho hb hg hat; rw [← Ny112.out] at ho; have n0_ := Aside0.mk (Kd.V_afterv (ok := (fun k_ => ((P0_3_ k_ ∨ P0_4_ k_) ∨ w.heap.size ≤ k_) ∧ some k_ ≠ (.slice Ao13 t109.length co13 : Value).ownBlock ∧ k_ ≠ gb104)) (by (with_reducible repeat (first | apply Kd.V_alloc | apply Kd.V_drewN | apply Kd.V_drew)); exact Kd.V_mono HO_105003.out (fun _ hk => ⟨⟨hk.1.1, ⟨hk.2, hk.1.2.2⟩⟩, hk.1.2.1⟩)) hg hat); have n1_ := Aside0.mk (Kd.V_afterv (ok := (fun k_ => ((P0_3_ k_ ∨ P0_4_ k_) ∨ w.heap.size ≤ k_) ∧ some k_ ≠ (.slice Ao13 t109.length co13 : Value).ownBlock ∧ k_ ≠ gb104)) (by (with_reducible repeat (first | apply Kd.V_alloc | apply Kd.V_drewN | apply Kd.V_drew)); exact Kd.V_mono HO_105004.out (fun _ hk => ⟨⟨hk.1.1, ⟨hk.2, hk.1.2.2⟩⟩, hk.1.2.1⟩)) hg hat); have n2_ := Aside0.mk (blk_grown (g := gb104) (o := .cells #[.int .i64 a0_0, .int .i64 a0_1, .string a0_2, .slice A0_3 l0_3.length c0_3, .slice (some ad108) l0_4.length c0_4] 25 (0, 0)) (by (with_reducible repeat (first | refine blk_drewN ?_ _ | refine blk_drew ?_ | refine blk_alloc ?_ _)); exact BK104.out) hg (Kd.N_away HO_3.out (fun _ hk => hk.1.2))); have n3_ := Aside0.mk (Kd.V_afterv (ok := (fun k_ => ((P0_3_ k_ ∨ P0_4_ k_) ∨ w.heap.size ≤ k_) ∧ some k_ ≠ (.slice Ao13 t109.length co13 : Value).ownBlock ∧ k_ ≠ gb104)) (by (with_reducible repeat (first | apply Kd.V_alloc | apply Kd.V_drewN | apply Kd.V_drew)); exact Kd.V_mono HL108_3.out (fun _ hk => ⟨⟨hk.1.1, ⟨hk.2, hk.1.2.2⟩⟩, hk.1.2.1⟩)) hg hat); have n4_ := Aside0.mk (Kd.V_afterv (ok := (fun k_ => ((P0_3_ k_ ∨ P0_4_ k_) ∨ w.heap.size ≤ k_) ∧ some k_ ≠ (.slice Ao13 t109.length co13 : Value).ownBlock ∧ k_ ≠ gb104)) (by (with_reducible repeat (first | apply Kd.V_alloc | apply Kd.V_drewN | apply Kd.V_drew)); exact Kd.V_mono HL108_4.out (fun _ hk => ⟨⟨hk.1.1, ⟨hk.2, hk.1.2.2⟩⟩, hk.1.2.1⟩)) hg hat); have n5_ := Aside0.mk (Kd.N_afterv (ok := (fun k_ => ((P0_3_ k_ ∨ P0_4_ k_) ∨ w.heap.size ≤ k_) ∧ k_ ≠ gb104)) (by (with_reducible repeat (first | apply Kd.N_alloc | apply Kd.N_drewN | apply Kd.N_drew)); exact Kd.N_mono HO111.out (fun _ hk => ⟨⟨hk.1, hk.2.2⟩, hk.2.1⟩)) hg hat); have n6_ := Aside0.mk (hb); have n7_ := Aside0.mk (ho); clear HO_105003; clear HO_105004; clear BK104; clear HL108_3; clear HL108_4; clear HO111; clear HB; clear HO_3; have HO_105003 := n0_; have HO_105004 := n1_; have BK104 := n2_; have HL108_3 := n3_; have HL108_4 := n4_; have HO111 := n5_; have HB := n6_; have HO114 := n7_; clear n0_ n1_ n2_ n3_ n4_ n5_ n6_ n7_; clear ho hb hg hat))
            go_roundg k1
            case measure => have := HK1.out; omega
            case rel => exact ⟨(y112), (wrap64 (x4_1 + 1)), (by first | rfl | (simp; done) | (simp [*]; done)), (by first | with_reducible exact H' | exact H' | (subst_vars; exact H')), ⟨by have := HK1.out; omega⟩, ⟨by (with_reducible repeat (first | apply Kd.N_alloc | apply Kd.N_drewN | apply Kd.N_drew)); exact HO114.out⟩, ⟨by (with_reducible repeat (first | apply Kd.V_alloc | apply Kd.V_drewN | apply Kd.V_drew)); exact Kd.V_mono HO_105003.out (fun _ hk => ⟨hk.1.1, ⟨hk.2, hk.1.2.2⟩⟩)⟩, ⟨by (with_reducible repeat (first | apply Kd.V_alloc | apply Kd.V_drewN | apply Kd.V_drew)); exact Kd.V_mono HO_105004.out (fun _ hk => ⟨hk.1.1, ⟨hk.2, hk.1.2.2⟩⟩)⟩, ⟨by (with_reducible repeat (first | refine blk_drewN ?_ _ | refine blk_drew ?_ | refine blk_alloc ?_ _)); exact BK104.out⟩, ⟨by repeat (first | (with_reducible first | exact HB.out | apply below_alloc | apply pw_below_drewN | apply below_drew1 | refine below_set ?_ GE104.out) | exact HB.out)⟩⟩
          · rw [if_neg c9] at H
            exact absurd H (by simp)
        · rw [if_neg c7] at H
          exact absurd H (by simp)
      · rw [if_neg c6] at H
        have c6b0 : decide (x4_1 < (l0_4.length : Int)) = false := decide_eq_false c6
        clear c6
        obtain rfl := Option.some.inj H
        have hcz14_0 : wr.cell? ⟨gb104, 0, none⟩ = some (.int .i64 a0_0) := (blk_cell BK104.out 0).trans rfl
        have hcz14_1 : wr.cell? ⟨gb104, 1, none⟩ = some (.int .i64 a0_1) := (blk_cell BK104.out 1).trans rfl
        have hcz14_2 : wr.cell? ⟨gb104, 2, none⟩ = some (.string a0_2) := (blk_cell BK104.out 2).trans rfl
        have hcz14_3 : wr.cell? ⟨gb104, 3, none⟩ = some (.slice A0_3 l0_3.length c0_3) := (blk_cell BK104.out 3).trans rfl
        have hcz14_4 : wr.cell? ⟨gb104, 4, none⟩ = some (.slice A0_4 l0_4.length c0_4) := (blk_cell BK104.out 4).trans rfl
        have hfz14_0 := blk_frozen BK104.out 0
        have hfz14_1 := blk_frozen BK104.out 1
        have hfz14_2 := blk_frozen BK104.out 2
        have hfz14_3 := blk_frozen BK104.out 3
        have hfz14_4 := blk_frozen BK104.out 4
        go_wp2
        go_ret
        exact ⟨_, by first | rfl | (simp [errW_none, errW_some] <;> rfl) | (simp [*, errW_none, errW_some] <;> rfl), by (with_reducible repeat (first | apply Kd.N_alloc | apply Kd.N_drewN | apply Kd.N_drew)); exact Kd.N_mono HO_3.out (fun _ hk => hk.1), by repeat (first | (with_reducible first | exact HB.out | apply below_alloc | apply pw_below_drewN | apply below_drew1 | refine below_set ?_ GE104.out) | exact HB.out)⟩
end Go.Proofs.Ytbnmcnghmnhigaa.X
end
section
namespace Go.Proofs.Ytbnmcnghmnhigaa.X
open Go.RowKit Go.Proofs.YtbnmcnghmnhigaaW.PrintWords Go.Proofs.YtbnmcnghmnhigaaW.PrintLast Go.Proofs.YtbnmcnghmnhigaaW.PrintMore
attribute [local go_sem] max2_int min2_int max_two min_two max_three min_three max_four min_four
set_option linter.unusedVariables false
set_option linter.unusedSimpArgs false
mutual
def sealringlaw07_Few.l0 : Nat → Int → List (S25) → Int → List (S25) → Int → Int → Option (Bool)
  | 0, _, _, _, _, _, _ => none
  | k + 1, x1, x5, x6, x16, x17, x18 => if x18 < x17 then (if 0 ≤ x18 then (if x18 < (x16.length : Int) then (sealringlaw07_Few.l1 k x1 x5 (wrap64 (x6 + (((rd_T25 x16 x18).f2).size : Int))) x16 x17 x18 ((rd_T25 x16 x18).f3) (((rd_T25 x16 x18).f3).length : Int) 0) else (none)) else (none)) else (if (x5.length : Int) ≤ x1 then (some (decide (x6 ≤ 3000))) else (some false))
def sealringlaw07_Few.l1 : Nat → Int → List (S25) → Int → List (S25) → Int → Int → List ByteArray → Int → Int → Option (Bool)
  | 0, _, _, _, _, _, _, _, _, _ => none
  | k + 1, x1, x5, x6, x16, x17, x18, x28, x29, x30 => if x30 < x29 then (if 0 ≤ x30 then (if x30 < (x28.length : Int) then (sealringlaw07_Few.l1 k x1 x5 (wrap64 (x6 + (wrap64 (((rdOf ByteArray.empty x28 x30).size : Int) + 1)))) x16 x17 x18 x28 x29 (wrap64 (x30 + 1))) else (none)) else (none)) else (sealringlaw07_Few.l0 k x1 x5 x6 x16 x17 (wrap64 (x18 + 1)))
end
def sealringlaw07_Few.f (k : Nat) (a0_0 : Int) (a0_1 : Int) (a0_2 : ByteArray) (l0_3 : List ByteArray) (l0_4 : List (S25)) (a1 : Int) : Option (Bool) := (sealringref07_Depth.f k a0_0 a0_1 a0_2 l0_3 l0_4).bind fun t116 => (if t116 > 80 then (some false) else ((sealringref07_All.f k a0_0 a0_1 a0_2 l0_3 l0_4).bind fun t117 => (sealringlaw07_Few.l0 k a1 t117 0 t117 (t117.length : Int) 0)))
theorem sealringlaw07_Few.mono_l : ∀ k, (∀ y0 y1 y2 y3 y4 y5, LeO (sealringlaw07_Few.l0 k y0 y1 y2 y3 y4 y5) (sealringlaw07_Few.l0 (k + 1) y0 y1 y2 y3 y4 y5)) ∧ (∀ y0 y1 y2 y3 y4 y5 y6 y7 y8, LeO (sealringlaw07_Few.l1 k y0 y1 y2 y3 y4 y5 y6 y7 y8) (sealringlaw07_Few.l1 (k + 1) y0 y1 y2 y3 y4 y5 y6 y7 y8))
  | 0 => ⟨fun _ _ _ _ _ _ r h => by simp [sealringlaw07_Few.l0] at h, fun _ _ _ _ _ _ _ _ _ r h => by simp [sealringlaw07_Few.l1] at h⟩
  | k + 1 => by
    obtain ⟨ih0, ih1⟩ := sealringlaw07_Few.mono_l k
    refine ⟨?_, ?_⟩
    · intro y0 y1 y2 y3 y4 y5
      unfold sealringlaw07_Few.l0
      repeat' first
      | (with_reducible exact ih0 _ _ _ _ _ _)
      | (with_reducible exact ih1 _ _ _ _ _ _ _ _ _)
      | (with_reducible exact sealringref07_All.mono _ _ _ _ _ _)
      | (with_reducible exact sealringref07_Depth.mono _ _ _ _ _ _)
      | (with_reducible exact LeO.refl _)
      | (with_reducible exact LeO.none _)
      | (with_reducible refine LeO.ite ?_ ?_)
      | (with_reducible refine LeO.bind ?_ (fun _ => ?_))
      | exact ih0 _ _ _ _ _ _
      | exact ih1 _ _ _ _ _ _ _ _ _
      | exact sealringref07_All.mono _ _ _ _ _ _
      | exact sealringref07_Depth.mono _ _ _ _ _ _
      | exact LeO.none _
      | refine LeO.ite ?_ ?_
      | refine LeO.bind ?_ (fun _ => ?_)
    · intro y0 y1 y2 y3 y4 y5 y6 y7 y8
      unfold sealringlaw07_Few.l1
      repeat' first
      | (with_reducible exact ih0 _ _ _ _ _ _)
      | (with_reducible exact ih1 _ _ _ _ _ _ _ _ _)
      | (with_reducible exact sealringref07_All.mono _ _ _ _ _ _)
      | (with_reducible exact sealringref07_Depth.mono _ _ _ _ _ _)
      | (with_reducible exact LeO.refl _)
      | (with_reducible exact LeO.none _)
      | (with_reducible refine LeO.ite ?_ ?_)
      | (with_reducible refine LeO.bind ?_ (fun _ => ?_))
      | exact ih0 _ _ _ _ _ _
      | exact ih1 _ _ _ _ _ _ _ _ _
      | exact sealringref07_All.mono _ _ _ _ _ _
      | exact sealringref07_Depth.mono _ _ _ _ _ _
      | exact LeO.none _
      | refine LeO.ite ?_ ?_
      | refine LeO.bind ?_ (fun _ => ?_)
theorem sealringlaw07_Few.mono : ∀ a0 a1 a2 a3 a4 a5 k, LeO (sealringlaw07_Few.f k a0 a1 a2 a3 a4 a5) (sealringlaw07_Few.f (k + 1) a0 a1 a2 a3 a4 a5) := by
  intro a0 a1 a2 a3 a4 a5 k
  obtain ⟨ih0, ih1⟩ := sealringlaw07_Few.mono_l k
  unfold sealringlaw07_Few.f
  repeat' first
      | (with_reducible exact ih0 _ _ _ _ _ _)
      | (with_reducible exact ih1 _ _ _ _ _ _ _ _ _)
      | (with_reducible exact sealringref07_All.mono _ _ _ _ _ _)
      | (with_reducible exact sealringref07_Depth.mono _ _ _ _ _ _)
      | (with_reducible exact LeO.refl _)
      | (with_reducible exact LeO.none _)
      | (with_reducible refine LeO.ite ?_ ?_)
      | (with_reducible refine LeO.bind ?_ (fun _ => ?_))
      | exact ih0 _ _ _ _ _ _
      | exact ih1 _ _ _ _ _ _ _ _ _
      | exact sealringref07_All.mono _ _ _ _ _ _
      | exact sealringref07_Depth.mono _ _ _ _ _ _
      | exact LeO.none _
      | refine LeO.ite ?_ ?_
      | refine LeO.bind ?_ (fun _ => ?_)
set_option maxHeartbeats 8000000 in
set_option maxRecDepth 100000 in
theorem sealringlaw07_Few.calls (k : Nat) (a0_0 : Int) (a0_1 : Int) (a0_2 : ByteArray) (A0_3 : Option Addr) (c0_3 : Nat) (l0_3 : List ByteArray) (A0_4 : Option Addr) (c0_4 : Nat) (l0_4 : List (S25)) (a1 : Int) (r : Bool) (w : World) (hr0_3 : Kd.C Kd.string w A0_3 l0_3.length l0_3) (hc0_3 : l0_3.length ≤ c0_3) (hr0_4 : Kd.C k25 w A0_4 l0_4.length l0_4) (hc0_4 : l0_4.length ≤ c0_4) (h : sealringlaw07_Few.f k a0_0 a0_1 a0_2 l0_3 l0_4 a1 = some r) :
    Calls Try.prog 13 #[.agg #[.int .i64 a0_0, .int .i64 a0_1, .string a0_2, .slice A0_3 l0_3.length c0_3, .slice A0_4 l0_4.length c0_4], .int .i64 a1] w fun e w' => e = .returned (.bool r) ∧ Below w.heap.size w w' := by
  have hu25 := Try.underlying25
  have HR0_3 := Aside0.mk hr0_3
  have HC0_3 := Aside0.mk hc0_3
  clear hr0_3 hc0_3
  have HR0_4 := Aside0.mk hr0_4
  have HC0_4 := Aside0.mk hc0_4
  clear hr0_4 hc0_4
  have HB := Aside0.mk (Below.refl w.heap.size w)
  have H : ((sealringref07_Depth.f k a0_0 a0_1 a0_2 l0_3 l0_4).bind fun t116 => (if t116 > 80 then (some false) else ((sealringref07_All.f k a0_0 a0_1 a0_2 l0_3 l0_4).bind fun t117 => (sealringlaw07_Few.l0 k a1 t117 0 t117 (t117.length : Int) 0)))) = some r := h
  clear h
  replace H := Option.bind_eq_some_iff.mp H
  obtain ⟨t116, A30, H⟩ := H
  replace H : (if t116 > 80 then (some false) else ((sealringref07_All.f k a0_0 a0_1 a0_2 l0_3 l0_4).bind fun t117 => (sealringlaw07_Few.l0 k a1 t117 0 t117 (t117.length : Int) 0))) = some r := H
  have A3 := Aside0.mk A30
  clear A30
  by_cases c4 : t116 > 80
  · rw [if_pos c4] at H
    have c4b0 : decide (80 < t116) = true := decide_eq_true c4
    clear c4
    obtain rfl := Option.some.inj H
    go_enter Try.func13, Try.ntmps13
    go_wp2_with (first | ((with_reducible refine gate_dst (N := 2) rfl ?_); refine box_event ?hg (N := 2) ?hd (cs := #[.int .i64 a0_0, .int .i64 a0_1, .string a0_2, .slice A0_3 l0_3.length c0_3, .slice A0_4 l0_4.length c0_4]) (t := 25) ?hr ?_; (case hd => rfl); (case hg => rfl); (case hr => first | (go_simp; done) | (go_simp; rfl)); intro gb115 hg w5 hbox hb; have n0_ := Aside0.mk (below_step (by repeat (first | (with_reducible first | exact HB.out | apply below_alloc | apply pw_below_drewN | apply below_drew1) | exact HB.out)) hb); have n1_ := Aside0.mk (hbox); have n2_ := Aside0.mk ((by rw [hg]; exact (below_size (by repeat (first | (with_reducible first | exact HB.out | apply below_alloc | apply pw_below_drewN | apply below_drew1) | exact HB.out))) : w.heap.size ≤ gb115)); have n3_ := Aside0.mk ((by rw [hg]; exact (below_size (by repeat (first | (with_reducible first | exact HB.out | apply below_alloc | apply pw_below_drewN | apply below_drew1) | exact HB.out))) : w.heap.size ≤ gb115)); clear HB; have HB := n0_; have BK115 := n1_; have GW115 := n2_; have GE115 := n3_; clear n0_ n1_ n2_ n3_; clear hb hbox hg; have hcz6_0 : w5.cell? ⟨gb115, 0, none⟩ = some (.int .i64 a0_0) := (blk_cell BK115.out 0).trans rfl; have hcz6_1 : w5.cell? ⟨gb115, 1, none⟩ = some (.int .i64 a0_1) := (blk_cell BK115.out 1).trans rfl; have hcz6_2 : w5.cell? ⟨gb115, 2, none⟩ = some (.string a0_2) := (blk_cell BK115.out 2).trans rfl; have hcz6_3 : w5.cell? ⟨gb115, 3, none⟩ = some (.slice A0_3 l0_3.length c0_3) := (blk_cell BK115.out 3).trans rfl; have hcz6_4 : w5.cell? ⟨gb115, 4, none⟩ = some (.slice A0_4 l0_4.length c0_4) := (blk_cell BK115.out 4).trans rfl; have hfz6_0 := blk_frozen BK115.out 0; have hfz6_1 := blk_frozen BK115.out 1; have hfz6_2 := blk_frozen BK115.out 2; have hfz6_3 := blk_frozen BK115.out 3; have hfz6_4 := blk_frozen BK115.out 4) | ((with_reducible refine gate_callee (f := 49) rfl ?_); refine goesL_ (some 12) rfl rfl Try.func49 (by kernel_rfl) rfl #[.agg #[.int .i64 a0_0, .int .i64 a0_1, .string a0_2, .slice A0_3 l0_3.length c0_3, .slice A0_4 l0_4.length c0_4]] rfl (by (try simp only [List.map_toArray, List.map_cons, List.map_nil]); first | done | rfl | (simp only [List.length_drop, List.length_take]; rfl)) ?_; (with_reducible refine (sealringref07_Depth.calls k a0_0 a0_1 a0_2 _ _ l0_3 _ _ l0_4 t116 _ ?side1 ?side2 ?side3 ?side4 A3.out).mono ?_); (case side1 => repeat (first | exact (Kd.C_below HR0_3.out HB.out) | (with_reducible refine Kd.C_alloc ?_ _) | (with_reducible refine Kd.C_drewN ?_ _) | (with_reducible refine Kd.C_drew ?_))); (case side2 => exact HC0_3.out); (case side3 => repeat (first | exact (Kd.C_below HR0_4.out HB.out) | (with_reducible refine Kd.C_alloc ?_ _) | (with_reducible refine Kd.C_drewN ?_ _) | (with_reducible refine Kd.C_drew ?_))); (case side4 => exact HC0_4.out); rintro e w7 ⟨rfl, hb⟩; refine ⟨_, rfl, ?_⟩; have n0_ := Aside0.mk (blk_below (g := gb115) (o := .cells #[.int .i64 a0_0, .int .i64 a0_1, .string a0_2, .slice A0_3 l0_3.length c0_3, .slice A0_4 l0_4.length c0_4] 25 (0, 0)) (by (with_reducible repeat (first | refine blk_drewN ?_ _ | refine blk_drew ?_ | refine blk_alloc ?_ _)); exact BK115.out) hb); have n1_ := Aside0.mk (below_step (by repeat (first | (with_reducible first | exact HB.out | apply below_alloc | apply pw_below_drewN | apply below_drew1 | refine below_set ?_ GE115.out) | exact HB.out)) hb); clear BK115; clear HB; have BK115 := n0_; have HB := n1_; clear n0_ n1_; (try clear hb); (try clear hb2); (try clear hk); (try clear hi)))
    go_ret
    exact ⟨by first | rfl | (simp [errW_none, errW_some] <;> rfl) | (simp [*, errW_none, errW_some] <;> rfl), by repeat (first | (with_reducible first | exact HB.out | apply below_alloc | apply pw_below_drewN | apply below_drew1 | refine below_set ?_ GE115.out) | exact HB.out)⟩
  · rw [if_neg c4] at H
    have c4b0 : decide (80 < t116) = false := decide_eq_false c4
    clear c4
    replace H := Option.bind_eq_some_iff.mp H
    obtain ⟨t117, A80, H⟩ := H
    replace H : (sealringlaw07_Few.l0 k a1 t117 0 t117 (t117.length : Int) 0) = some r := H
    have A8 := Aside0.mk A80
    clear A80
    have H' := Aside0.mk H
    clear H
    go_enter Try.func13, Try.ntmps13
    go_wp2_with (first | ((with_reducible refine gate_dst (N := 2) rfl ?_); refine box_event ?hg (N := 2) ?hd (cs := #[.int .i64 a0_0, .int .i64 a0_1, .string a0_2, .slice A0_3 l0_3.length c0_3, .slice A0_4 l0_4.length c0_4]) (t := 25) ?hr ?_; (case hd => rfl); (case hg => rfl); (case hr => first | (go_simp; done) | (go_simp; rfl)); intro gb115 hg w9 hbox hb; have n0_ := Aside0.mk (below_step (by repeat (first | (with_reducible first | exact HB.out | apply below_alloc | apply pw_below_drewN | apply below_drew1) | exact HB.out)) hb); have n1_ := Aside0.mk (hbox); have n2_ := Aside0.mk ((by rw [hg]; exact (below_size (by repeat (first | (with_reducible first | exact HB.out | apply below_alloc | apply pw_below_drewN | apply below_drew1) | exact HB.out))) : w.heap.size ≤ gb115)); have n3_ := Aside0.mk ((by rw [hg]; exact (below_size (by repeat (first | (with_reducible first | exact HB.out | apply below_alloc | apply pw_below_drewN | apply below_drew1) | exact HB.out))) : w.heap.size ≤ gb115)); clear HB; have HB := n0_; have BK115 := n1_; have GW115 := n2_; have GE115 := n3_; clear n0_ n1_ n2_ n3_; clear hb hbox hg; have hcz10_0 : w9.cell? ⟨gb115, 0, none⟩ = some (.int .i64 a0_0) := (blk_cell BK115.out 0).trans rfl; have hcz10_1 : w9.cell? ⟨gb115, 1, none⟩ = some (.int .i64 a0_1) := (blk_cell BK115.out 1).trans rfl; have hcz10_2 : w9.cell? ⟨gb115, 2, none⟩ = some (.string a0_2) := (blk_cell BK115.out 2).trans rfl; have hcz10_3 : w9.cell? ⟨gb115, 3, none⟩ = some (.slice A0_3 l0_3.length c0_3) := (blk_cell BK115.out 3).trans rfl; have hcz10_4 : w9.cell? ⟨gb115, 4, none⟩ = some (.slice A0_4 l0_4.length c0_4) := (blk_cell BK115.out 4).trans rfl; have hfz10_0 := blk_frozen BK115.out 0; have hfz10_1 := blk_frozen BK115.out 1; have hfz10_2 := blk_frozen BK115.out 2; have hfz10_3 := blk_frozen BK115.out 3; have hfz10_4 := blk_frozen BK115.out 4) | ((with_reducible refine gate_callee (f := 49) rfl ?_); refine goesL_ (some 12) rfl rfl Try.func49 (by kernel_rfl) rfl #[.agg #[.int .i64 a0_0, .int .i64 a0_1, .string a0_2, .slice A0_3 l0_3.length c0_3, .slice A0_4 l0_4.length c0_4]] rfl (by (try simp only [List.map_toArray, List.map_cons, List.map_nil]); first | done | rfl | (simp only [List.length_drop, List.length_take]; rfl)) ?_; (with_reducible refine (sealringref07_Depth.calls k a0_0 a0_1 a0_2 _ _ l0_3 _ _ l0_4 t116 _ ?side1 ?side2 ?side3 ?side4 A3.out).mono ?_); (case side1 => repeat (first | exact (Kd.C_below HR0_3.out HB.out) | (with_reducible refine Kd.C_alloc ?_ _) | (with_reducible refine Kd.C_drewN ?_ _) | (with_reducible refine Kd.C_drew ?_))); (case side2 => exact HC0_3.out); (case side3 => repeat (first | exact (Kd.C_below HR0_4.out HB.out) | (with_reducible refine Kd.C_alloc ?_ _) | (with_reducible refine Kd.C_drewN ?_ _) | (with_reducible refine Kd.C_drew ?_))); (case side4 => exact HC0_4.out); rintro e w11 ⟨rfl, hb⟩; refine ⟨_, rfl, ?_⟩; have n0_ := Aside0.mk (blk_below (g := gb115) (o := .cells #[.int .i64 a0_0, .int .i64 a0_1, .string a0_2, .slice A0_3 l0_3.length c0_3, .slice A0_4 l0_4.length c0_4] 25 (0, 0)) (by (with_reducible repeat (first | refine blk_drewN ?_ _ | refine blk_drew ?_ | refine blk_alloc ?_ _)); exact BK115.out) hb); have n1_ := Aside0.mk (below_step (by repeat (first | (with_reducible first | exact HB.out | apply below_alloc | apply pw_below_drewN | apply below_drew1 | refine below_set ?_ GE115.out) | exact HB.out)) hb); clear BK115; clear HB; have BK115 := n0_; have HB := n1_; clear n0_ n1_; (try clear hb); (try clear hb2); (try clear hk); (try clear hi); have hcz12_0 : w11.cell? ⟨gb115, 0, none⟩ = some (.int .i64 a0_0) := (blk_cell BK115.out 0).trans rfl; have hcz12_1 : w11.cell? ⟨gb115, 1, none⟩ = some (.int .i64 a0_1) := (blk_cell BK115.out 1).trans rfl; have hcz12_2 : w11.cell? ⟨gb115, 2, none⟩ = some (.string a0_2) := (blk_cell BK115.out 2).trans rfl; have hcz12_3 : w11.cell? ⟨gb115, 3, none⟩ = some (.slice A0_3 l0_3.length c0_3) := (blk_cell BK115.out 3).trans rfl; have hcz12_4 : w11.cell? ⟨gb115, 4, none⟩ = some (.slice A0_4 l0_4.length c0_4) := (blk_cell BK115.out 4).trans rfl; have hfz12_0 := blk_frozen BK115.out 0; have hfz12_1 := blk_frozen BK115.out 1; have hfz12_2 := blk_frozen BK115.out 2; have hfz12_3 := blk_frozen BK115.out 3; have hfz12_4 := blk_frozen BK115.out 4) | ((with_reducible refine gate_callee (f := 51) rfl ?_); refine goesL_ (some 15) rfl rfl Try.func51 (by kernel_rfl) rfl #[.agg #[.int .i64 a0_0, .int .i64 a0_1, .string a0_2, .slice A0_3 l0_3.length c0_3, .slice A0_4 l0_4.length c0_4]] rfl (by (try simp only [List.map_toArray, List.map_cons, List.map_nil]); first | done | rfl | (simp only [List.length_drop, List.length_take]; rfl)) ?_; (with_reducible refine (sealringref07_All.calls k a0_0 a0_1 a0_2 (fun k_ => k_ < w.heap.size) _ _ l0_3 (fun k_ => k_ < w.heap.size) _ _ l0_4 t117 _ ?side1 ?side2 A8.out).mono ?_); (case side1 => exact Kd.V_mk HC0_3.out (Kd.F_below (Kd.C_F Kd.heap_string HR0_3.out) (by repeat (first | (with_reducible first | exact HB.out | apply below_alloc | apply pw_below_drewN | apply below_drew1 | refine below_set ?_ GE115.out) | exact HB.out)))); (case side2 => exact Kd.V_mk HC0_4.out (Kd.F_below (Kd.C_F k25_heap HR0_4.out) (by repeat (first | (with_reducible first | exact HB.out | apply below_alloc | apply pw_below_drewN | apply below_drew1 | refine below_set ?_ GE115.out) | exact HB.out)))); rintro e w13 ⟨v118, rfl, ho0, hb⟩; refine ⟨_, rfl, ?_⟩; have n0_ := Aside0.mk (Kd.N_lower (Kd.N_mono (ok' := fun k_ => k_ ≠ gb115) ho0 (fun k_ hk_ => Or.elim hk_ (fun hs_ => Or.elim hs_ (fun hs_ => fun e_ => Nat.not_le.2 hs_ (by rw [e_]; exact GW115.out)) (fun hs_ => fun e_ => Nat.not_le.2 hs_ (by rw [e_]; exact GW115.out))) (fun hn_ => (Kd.freshB (g := gb115) (o := .cells #[.int .i64 a0_0, .int .i64 a0_1, .string a0_2, .slice A0_3 l0_3.length c0_3, .slice A0_4 l0_4.length c0_4] 25 (0, 0)) (by (with_reducible repeat (first | refine blk_drewN ?_ _ | refine blk_drew ?_ | refine blk_alloc ?_ _)); exact BK115.out) k_ hn_)))) (below_size (by repeat (first | (with_reducible first | exact HB.out | apply below_alloc | apply pw_below_drewN | apply below_drew1 | refine below_set ?_ GE115.out) | exact HB.out)))); have n1_ := Aside0.mk (blk_below (g := gb115) (o := .cells #[.int .i64 a0_0, .int .i64 a0_1, .string a0_2, .slice A0_3 l0_3.length c0_3, .slice A0_4 l0_4.length c0_4] 25 (0, 0)) (by (with_reducible repeat (first | refine blk_drewN ?_ _ | refine blk_drew ?_ | refine blk_alloc ?_ _)); exact BK115.out) hb); have n2_ := Aside0.mk (below_step (by repeat (first | (with_reducible first | exact HB.out | apply below_alloc | apply pw_below_drewN | apply below_drew1 | refine below_set ?_ GE115.out) | exact HB.out)) hb); clear BK115; clear HB; have HO119 := n0_; have BK115 := n1_; have HB := n2_; clear n0_ n1_ n2_; (try clear hb); (try clear hb2); (try clear hk); (try clear hi); (try clear ho0); obtain ⟨Ao14, co14, eo14⟩ := Kd.N_slice HO119.out; subst eo14))
    go_loopg [6, 18] k (fun kq v6 v18 w' => ∃ (x6_1 : Int) (x18_1 : Int), v6 = .int .i64 x6_1 ∧ v18 = .int .i64 x18_1 ∧ Aside0 (sealringlaw07_Few.l0 kq a1 t117 x6_1 t117 (t117.length : Int) x18_1 = some r) ∧ Aside0 (kq ≤ k) ∧ Aside0 (Kd.N k25 25 w' w.heap.size (fun k_ => k_ ≠ gb115) (.slice Ao14 t117.length co14) t117) ∧ Aside0 (Kd.N k25 25 w' w.heap.size (fun k_ => k_ ≠ gb115) (.slice Ao14 t117.length co14) t117) ∧ Aside0 (w'.heap[gb115]? = some (.cells #[.int .i64 a0_0, .int .i64 a0_1, .string a0_2, (.slice A0_3 l0_3.length c0_3), (.slice A0_4 l0_4.length c0_4)] 25 (0, 0))) ∧ Aside0 (Below w.heap.size w w'))
    case atStart => exact ⟨(0), (0), (by first | rfl | (simp; done) | (simp [*]; done)), (by first | rfl | (simp; done) | (simp [*]; done)), (by first | with_reducible exact H' | exact H' | (subst_vars; exact H')), ⟨Nat.le_refl _⟩, ⟨by (with_reducible repeat (first | apply Kd.N_alloc | apply Kd.N_drewN | apply Kd.N_drew)); exact HO119.out⟩, ⟨by (with_reducible repeat (first | apply Kd.N_alloc | apply Kd.N_drewN | apply Kd.N_drew)); exact HO119.out⟩, ⟨by (with_reducible repeat (first | refine blk_drewN ?_ _ | refine blk_drew ?_ | refine blk_alloc ?_ _)); exact BK115.out⟩, ⟨by repeat (first | (with_reducible first | exact HB.out | apply below_alloc | apply pw_below_drewN | apply below_drew1 | refine below_set ?_ GE115.out) | exact HB.out)⟩⟩
    case round =>
      clear H'
      try clear c1
      try clear p2
      try clear c4
      try clear c4b0
      try clear c5
      try clear c13
      try clear hcz10_0
      try clear hcz10_1
      try clear hcz10_2
      try clear hcz10_3
      try clear hcz10_4
      try clear hcz12_0
      try clear hcz12_1
      try clear hcz12_2
      try clear hcz12_3
      try clear hcz12_4
      try clear hcz6_0
      try clear hcz6_1
      try clear hcz6_2
      try clear hcz6_3
      try clear hcz6_4
      try clear hfz10_0
      try clear hfz10_1
      try clear hfz10_2
      try clear hfz10_3
      try clear hfz10_4
      try clear hfz12_0
      try clear hfz12_1
      try clear hfz12_2
      try clear hfz12_3
      try clear hfz12_4
      try clear hfz6_0
      try clear hfz6_1
      try clear hfz6_2
      try clear hfz6_3
      try clear hfz6_4
      obtain ⟨x6_1, x18_1, rfl, rfl, HA, HK1, HO_5, HO_16, BK115, HB⟩ := hrel
      cases gk with
      | zero => exact absurd HA.out (by simp [sealringlaw07_Few.l0])
      | succ k1 =>
        have H := HA.out
        clear HA
        simp only [sealringlaw07_Few.l0] at H
        by_cases c15 : x18_1 < (t117.length : Int)
        · rw [if_pos c15] at H
          have c15b0 : decide (x18_1 < (t117.length : Int)) = true := decide_eq_true c15
          clear c15
          by_cases c16 : 0 ≤ x18_1
          · rw [if_pos c16] at H
            have c16b0 : decide (0 ≤ x18_1) = true := decide_eq_true c16
            clear c16
            by_cases c17 : x18_1 < (t117.length : Int)
            · rw [if_pos c17] at H
              have c17b0 : decide (x18_1 < (t117.length : Int)) = true := decide_eq_true c17
              clear c17
              have H' := Aside0.mk H
              clear H
              have p120 : 0 ≤ (x18_1 : Int) := of_decide_eq_true (by first | (with_reducible assumption) | assumption)
              have q120 : x18_1 < (t117.length : Int) := of_decide_eq_true (by first | (with_reducible assumption) | assumption)
              obtain ⟨ad120, A120_3, c120_3, A120_4, c120_4, e120, hx120_0, hx120_1, hx120_2, hx120_3, hx120_4, hl120_3, hi120_3, hl120_4, hi120_4⟩ := at_T25 (Kd.N_reads' HO_16.out).2.2 x18_1 p120 q120
              cases e120
              obtain ⟨ce120, hce120, hMe120, hcc120⟩ := Kd.N_get HO_16.out z25 x18_1 p120 (by first | exact q120 | exact of_decide_eq_true (by first | (with_reducible assumption) | assumption) | (have e_ := (Kd.N_reads' HO_16.out).1; omega))
              obtain ⟨ua120_3, uc120_3, ua120_4, uc120_4, rfl, ul120_3, ge120_3, ul120_4, ge120_4⟩ := k25_openF hMe120
              have hv120_3 := hcc120 3 _ rfl
              rw [add_field _ _ 3 (by omega)] at hv120_3
              replace hv120_3 := Option.some.inj (hv120_3.symm.trans hx120_3)
              injection hv120_3 with hva_ hvn_ hvc_
              rw [hva_] at ge120_3
              rw [hvc_] at ul120_3
              have HL120_3 := Aside0.mk (show Kd.V Kd.string 9 _ w.heap.size _ _ ((rd_T25 t117 x18_1).f3) from Kd.V_mk ul120_3 ge120_3)
              clear hva_ hvn_ hvc_ ge120_3 ul120_3
              have hv120_4 := hcc120 4 _ rfl
              rw [add_field _ _ 4 (by omega)] at hv120_4
              replace hv120_4 := Option.some.inj (hv120_4.symm.trans hx120_4)
              injection hv120_4 with hva_ hvn_ hvc_
              rw [hva_] at ge120_4
              rw [hvc_] at ul120_4
              have HL120_4 := Aside0.mk (show Kd.V k25 25 _ w.heap.size _ _ ((rd_T25 t117 x18_1).f4) from Kd.V_mk ul120_4 ge120_4)
              clear hva_ hvn_ hvc_ ge120_4 ul120_4
              clear hcc120 hce120
              have HR120_3 := Aside0.mk hi120_3
              have HC120_3 := Aside0.mk hl120_3
              clear hi120_3 hl120_3
              have HR120_4 := Aside0.mk hi120_4
              have HC120_4 := Aside0.mk hl120_4
              clear hi120_4 hl120_4
              replace p120 := eq_true p120
              replace q120 := eq_true q120
              go_wp2_with (first | ((with_reducible refine gate_dst (N := 8) rfl ?_); refine box_event ?hg (N := 8) ?hd (cs := #[.int .i64 0, .int .i64 0, .string (⟨#[]⟩ : ByteArray), .slice none 0 0, .slice none 0 0]) (t := 25) ?hr ?_; (case hd => rfl); (case hg => rfl); (case hr => first | (go_simp; done) | (go_simp; rfl)); intro gb121 hg w18 hbox hb; have n0_ := Aside0.mk (Kd.N_below (Kd.N_elderB (by (with_reducible repeat (first | apply Kd.N_alloc | apply Kd.N_drewN | apply Kd.N_drew)); exact HO_5.out) gb121 (Nat.le_of_eq hg.symm)) hb); have n1_ := Aside0.mk (Kd.N_below (Kd.N_elderB (by (with_reducible repeat (first | apply Kd.N_alloc | apply Kd.N_drewN | apply Kd.N_drew)); exact HO_16.out) gb121 (Nat.le_of_eq hg.symm)) hb); have n2_ := Aside0.mk (Kd.V_below (Kd.V_elderB (by (with_reducible repeat (first | apply Kd.V_alloc | apply Kd.V_drewN | apply Kd.V_drew)); exact HL120_3.out) gb121 (Nat.le_of_eq hg.symm)) hb); have n3_ := Aside0.mk (Kd.V_below (Kd.V_elderB (by (with_reducible repeat (first | apply Kd.V_alloc | apply Kd.V_drewN | apply Kd.V_drew)); exact HL120_4.out) gb121 (Nat.le_of_eq hg.symm)) hb); have n4_ := Aside0.mk (blk_below (g := gb115) (o := .cells #[.int .i64 a0_0, .int .i64 a0_1, .string a0_2, .slice A0_3 l0_3.length c0_3, .slice A0_4 l0_4.length c0_4] 25 (0, 0)) (by (with_reducible repeat (first | refine blk_drewN ?_ _ | refine blk_drew ?_ | refine blk_alloc ?_ _)); exact BK115.out) hb); have n5_ := Aside0.mk (Kd.C_below (by repeat (first | (with_reducible exact HR120_3.out) | (with_reducible refine Kd.C_alloc ?_ _) | (with_reducible refine Kd.C_drewN ?_ _) | (with_reducible refine Kd.C_drew ?_) | exact HR120_3.out)) hb); have n6_ := Aside0.mk (Kd.C_below (by repeat (first | (with_reducible exact HR120_4.out) | (with_reducible refine Kd.C_alloc ?_ _) | (with_reducible refine Kd.C_drewN ?_ _) | (with_reducible refine Kd.C_drew ?_) | exact HR120_4.out)) hb); have n7_ := Aside0.mk (below_step (by repeat (first | (with_reducible first | exact HB.out | apply below_alloc | apply pw_below_drewN | apply below_drew1 | refine below_set ?_ GE115.out) | exact HB.out)) hb); have n8_ := Aside0.mk (hbox); have n9_ := Aside0.mk ((by rw [hg]; exact (below_size (by repeat (first | (with_reducible first | exact HB.out | apply below_alloc | apply pw_below_drewN | apply below_drew1 | refine below_set ?_ GE115.out) | exact HB.out))) : w.heap.size ≤ gb121)); have n10_ := Aside0.mk ((by rw [hg]; exact (below_size (by repeat (first | (with_reducible first | exact HB.out | apply below_alloc | apply pw_below_drewN | apply below_drew1 | refine below_set ?_ GE115.out) | exact HB.out))) : w.heap.size ≤ gb121)); have n11_ := Aside0.mk ((by rw [hg]; exact Nat.ne_of_lt (blk_lt (g := gb115) (o := .cells #[.int .i64 a0_0, .int .i64 a0_1, .string a0_2, .slice A0_3 l0_3.length c0_3, .slice A0_4 l0_4.length c0_4] 25 (0, 0)) (by (with_reducible repeat (first | refine blk_drewN ?_ _ | refine blk_drew ?_ | refine blk_alloc ?_ _)); exact BK115.out)) : gb115 ≠ gb121)); have n12_ := Aside0.mk ((by rw [hg]; exact Nat.ne_of_gt (blk_lt (g := gb115) (o := .cells #[.int .i64 a0_0, .int .i64 a0_1, .string a0_2, .slice A0_3 l0_3.length c0_3, .slice A0_4 l0_4.length c0_4] 25 (0, 0)) (by (with_reducible repeat (first | refine blk_drewN ?_ _ | refine blk_drew ?_ | refine blk_alloc ?_ _)); exact BK115.out)) : gb121 ≠ gb115)); clear HO_5; clear HO_16; clear HL120_3; clear HL120_4; clear BK115; clear HR120_3; clear HR120_4; clear HB; have HO_5 := n0_; have HO_16 := n1_; have HL120_3 := n2_; have HL120_4 := n3_; have BK115 := n4_; have HR120_3 := n5_; have HR120_4 := n6_; have HB := n7_; have BK121 := n8_; have GW121 := n9_; have GE121 := n10_; have NB115_121 := n11_; have NB121_115 := n12_; clear n0_ n1_ n2_ n3_ n4_ n5_ n6_ n7_ n8_ n9_ n10_ n11_ n12_; clear hb hbox hg; have hnb19 := NB121_115.out; have hnc19 := NB115_121.out; have hcz20_0 : w18.cell? ⟨gb121, 0, none⟩ = some (.int .i64 0) := (blk_cell BK121.out 0).trans rfl; have hcz20_1 : w18.cell? ⟨gb121, 1, none⟩ = some (.int .i64 0) := (blk_cell BK121.out 1).trans rfl; have hcz20_2 : w18.cell? ⟨gb121, 2, none⟩ = some (.string (⟨#[]⟩ : ByteArray)) := (blk_cell BK121.out 2).trans rfl; have hcz20_3 : w18.cell? ⟨gb121, 3, none⟩ = some (.slice none 0 0) := (blk_cell BK121.out 3).trans rfl; have hcz20_4 : w18.cell? ⟨gb121, 4, none⟩ = some (.slice none 0 0) := (blk_cell BK121.out 4).trans rfl; have hfz20_0 := blk_frozen BK121.out 0; have hfz20_1 := blk_frozen BK121.out 1; have hfz20_2 := blk_frozen BK121.out 2; have hfz20_3 := blk_frozen BK121.out 3; have hfz20_4 := blk_frozen BK121.out 4))
              go_loopg [6, 30] k1 (fun kq v6 v30 w' => ∃ (x6_2 : Int) (x30_2 : Int), v6 = .int .i64 x6_2 ∧ v30 = .int .i64 x30_2 ∧ Aside0 (sealringlaw07_Few.l1 kq a1 t117 x6_2 t117 (t117.length : Int) x18_1 ((rd_T25 t117 x18_1).f3) (((rd_T25 t117 x18_1).f3).length : Int) x30_2 = some r) ∧ Aside0 (kq ≤ k1) ∧ Aside0 (Kd.N k25 25 w' w.heap.size (fun k_ => k_ ≠ gb115 ∧ k_ ≠ gb121) (.slice (some ad120) t117.length co14) t117) ∧ Aside0 (Kd.N k25 25 w' w.heap.size (fun k_ => k_ ≠ gb115 ∧ k_ ≠ gb121) (.slice (some ad120) t117.length co14) t117) ∧ Aside0 (w'.heap[gb115]? = some (.cells #[.int .i64 a0_0, .int .i64 a0_1, .string a0_2, (.slice A0_3 l0_3.length c0_3), (.slice A0_4 l0_4.length c0_4)] 25 (0, 0))) ∧ Aside0 (w'.heap[gb121]? = some (.cells #[.int .i64 ((rd_T25 t117 x18_1).f0), .int .i64 ((rd_T25 t117 x18_1).f1), .string ((rd_T25 t117 x18_1).f2), (.slice A120_3 ((rd_T25 t117 x18_1).f3).length c120_3), (.slice A120_4 ((rd_T25 t117 x18_1).f4).length c120_4)] 25 (0, 0))) ∧ Aside0 (Kd.C Kd.string w' A120_3 ((rd_T25 t117 x18_1).f3).length ((rd_T25 t117 x18_1).f3)) ∧ Aside0 (Kd.C k25 w' A120_4 ((rd_T25 t117 x18_1).f4).length ((rd_T25 t117 x18_1).f4)) ∧ Aside0 (Below w.heap.size w w'))
              case atStart => exact ⟨(wrap64 (x6_1 + (((rd_T25 t117 x18_1).f2).size : Int))), (0), (by first | rfl | (simp; done) | (simp [*]; done)), (by first | rfl | (simp; done) | (simp [*]; done)), (by first | with_reducible exact H' | exact H' | (subst_vars; exact H')), ⟨Nat.le_refl _⟩, ⟨by (with_reducible repeat (first | apply Kd.N_alloc | apply Kd.N_drewN | apply Kd.N_drew)); exact Kd.N_mono (Kd.N_far (p := ⟨gb121, 4, none⟩) (Kd.N_far (p := ⟨gb121, 3, none⟩) (Kd.N_far (p := ⟨gb121, 2, none⟩) (Kd.N_far (p := ⟨gb121, 1, none⟩) (Kd.N_far (p := ⟨gb121, 0, none⟩) (Kd.N_mono HO_5.out (fun k_ hk => (⟨hk, hk.2⟩ : _ ∧ k_ ≠ gb121))) (fun _ hk => hk.2) (.int .i64 ((rd_T25 t117 x18_1).f0))) (fun _ hk => hk.2) (.int .i64 ((rd_T25 t117 x18_1).f1))) (fun _ hk => hk.2) (.string ((rd_T25 t117 x18_1).f2))) (fun _ hk => hk.2) (.slice A120_3 ((rd_T25 t117 x18_1).f3).length c120_3)) (fun _ hk => hk.2) (.slice A120_4 ((rd_T25 t117 x18_1).f4).length c120_4)) (fun _ hk => ⟨hk.1.1, hk.1.2⟩)⟩, ⟨by (with_reducible repeat (first | apply Kd.N_alloc | apply Kd.N_drewN | apply Kd.N_drew)); exact Kd.N_mono (Kd.N_far (p := ⟨gb121, 4, none⟩) (Kd.N_far (p := ⟨gb121, 3, none⟩) (Kd.N_far (p := ⟨gb121, 2, none⟩) (Kd.N_far (p := ⟨gb121, 1, none⟩) (Kd.N_far (p := ⟨gb121, 0, none⟩) (Kd.N_mono HO_16.out (fun k_ hk => (⟨hk, hk.2⟩ : _ ∧ k_ ≠ gb121))) (fun _ hk => hk.2) (.int .i64 ((rd_T25 t117 x18_1).f0))) (fun _ hk => hk.2) (.int .i64 ((rd_T25 t117 x18_1).f1))) (fun _ hk => hk.2) (.string ((rd_T25 t117 x18_1).f2))) (fun _ hk => hk.2) (.slice A120_3 ((rd_T25 t117 x18_1).f3).length c120_3)) (fun _ hk => hk.2) (.slice A120_4 ((rd_T25 t117 x18_1).f4).length c120_4)) (fun _ hk => ⟨hk.1.1, hk.1.2⟩)⟩, ⟨by (with_reducible repeat (first | refine blk_drewN ?_ _ | refine blk_drew ?_ | refine blk_alloc ?_ _)); refine blk_far ?_ NB115_121.out _; (with_reducible repeat (first | refine blk_drewN ?_ _ | refine blk_drew ?_ | refine blk_alloc ?_ _)); refine blk_far ?_ NB115_121.out _; (with_reducible repeat (first | refine blk_drewN ?_ _ | refine blk_drew ?_ | refine blk_alloc ?_ _)); refine blk_far ?_ NB115_121.out _; (with_reducible repeat (first | refine blk_drewN ?_ _ | refine blk_drew ?_ | refine blk_alloc ?_ _)); refine blk_far ?_ NB115_121.out _; (with_reducible repeat (first | refine blk_drewN ?_ _ | refine blk_drew ?_ | refine blk_alloc ?_ _)); refine blk_far ?_ NB115_121.out _; (with_reducible repeat (first | refine blk_drewN ?_ _ | refine blk_drew ?_ | refine blk_alloc ?_ _)); exact BK115.out⟩, ⟨by (with_reducible repeat (first | refine blk_drewN ?_ _ | refine blk_drew ?_ | refine blk_alloc ?_ _)); refine blk_put (cs := #[.int .i64 ((rd_T25 t117 x18_1).f0), .int .i64 ((rd_T25 t117 x18_1).f1), .string ((rd_T25 t117 x18_1).f2), .slice A120_3 ((rd_T25 t117 x18_1).f3).length c120_3, .slice none 0 0]) ?_ 4 _ rfl; (with_reducible repeat (first | refine blk_drewN ?_ _ | refine blk_drew ?_ | refine blk_alloc ?_ _)); refine blk_put (cs := #[.int .i64 ((rd_T25 t117 x18_1).f0), .int .i64 ((rd_T25 t117 x18_1).f1), .string ((rd_T25 t117 x18_1).f2), .slice none 0 0, .slice none 0 0]) ?_ 3 _ rfl; (with_reducible repeat (first | refine blk_drewN ?_ _ | refine blk_drew ?_ | refine blk_alloc ?_ _)); refine blk_put (cs := #[.int .i64 ((rd_T25 t117 x18_1).f0), .int .i64 ((rd_T25 t117 x18_1).f1), .string (⟨#[]⟩ : ByteArray), .slice none 0 0, .slice none 0 0]) ?_ 2 _ rfl; (with_reducible repeat (first | refine blk_drewN ?_ _ | refine blk_drew ?_ | refine blk_alloc ?_ _)); refine blk_put (cs := #[.int .i64 ((rd_T25 t117 x18_1).f0), .int .i64 0, .string (⟨#[]⟩ : ByteArray), .slice none 0 0, .slice none 0 0]) ?_ 1 _ rfl; (with_reducible repeat (first | refine blk_drewN ?_ _ | refine blk_drew ?_ | refine blk_alloc ?_ _)); refine blk_put (cs := #[.int .i64 0, .int .i64 0, .string (⟨#[]⟩ : ByteArray), .slice none 0 0, .slice none 0 0]) ?_ 0 _ rfl; (with_reducible repeat (first | refine blk_drewN ?_ _ | refine blk_drew ?_ | refine blk_alloc ?_ _)); exact BK121.out⟩, ⟨(Kd.V_reads' (by (with_reducible repeat (first | apply Kd.V_alloc | apply Kd.V_drewN | apply Kd.V_drew)); exact (Kd.V_mono (Kd.V_far (p := ⟨gb121, 4, none⟩) (Kd.V_far (p := ⟨gb121, 3, none⟩) (Kd.V_far (p := ⟨gb121, 2, none⟩) (Kd.V_far (p := ⟨gb121, 1, none⟩) (Kd.V_far (p := ⟨gb121, 0, none⟩) (Kd.V_mono HL120_3.out (fun k_ hk => (⟨hk, hk.2⟩ : _ ∧ k_ ≠ gb121))) (fun _ hk => hk.2) (.int .i64 ((rd_T25 t117 x18_1).f0))) (fun _ hk => hk.2) (.int .i64 ((rd_T25 t117 x18_1).f1))) (fun _ hk => hk.2) (.string ((rd_T25 t117 x18_1).f2))) (fun _ hk => hk.2) (.slice A120_3 ((rd_T25 t117 x18_1).f3).length c120_3)) (fun _ hk => hk.2) (.slice A120_4 ((rd_T25 t117 x18_1).f4).length c120_4)) (fun _ h_ => h_.1)))).2.2⟩, ⟨(Kd.V_reads' (by (with_reducible repeat (first | apply Kd.V_alloc | apply Kd.V_drewN | apply Kd.V_drew)); exact (Kd.V_mono (Kd.V_far (p := ⟨gb121, 4, none⟩) (Kd.V_far (p := ⟨gb121, 3, none⟩) (Kd.V_far (p := ⟨gb121, 2, none⟩) (Kd.V_far (p := ⟨gb121, 1, none⟩) (Kd.V_far (p := ⟨gb121, 0, none⟩) (Kd.V_mono HL120_4.out (fun k_ hk => (⟨hk, hk.2⟩ : _ ∧ k_ ≠ gb121))) (fun _ hk => hk.2) (.int .i64 ((rd_T25 t117 x18_1).f0))) (fun _ hk => hk.2) (.int .i64 ((rd_T25 t117 x18_1).f1))) (fun _ hk => hk.2) (.string ((rd_T25 t117 x18_1).f2))) (fun _ hk => hk.2) (.slice A120_3 ((rd_T25 t117 x18_1).f3).length c120_3)) (fun _ hk => hk.2) (.slice A120_4 ((rd_T25 t117 x18_1).f4).length c120_4)) (fun _ h_ => h_.1)))).2.2⟩, ⟨by repeat (first | (with_reducible first | exact HB.out | apply below_alloc | apply pw_below_drewN | apply below_drew1 | refine below_set ?_ GE115.out | refine below_set ?_ GE121.out) | exact HB.out)⟩⟩
              case round =>
                clear H'
                try clear c1
                try clear p1
                try clear q1
                try clear hx1
                try clear p2
                try clear c4
                try clear c4b0
                try clear c5
                try clear p6
                try clear c12
                try clear p12
                try clear q12
                try clear hx12
                try clear c13
                try clear c15
                try clear c15b0
                try clear c16
                try clear c16b0
                try clear c17
                try clear c17b0
                try clear c19
                try clear hcz10_0
                try clear hcz10_1
                try clear hcz10_2
                try clear hcz10_3
                try clear hcz10_4
                try clear hcz12_0
                try clear hcz12_1
                try clear hcz12_2
                try clear hcz12_3
                try clear hcz12_4
                try clear hcz20_0
                try clear hcz20_1
                try clear hcz20_2
                try clear hcz20_3
                try clear hcz20_4
                try clear hcz6_0
                try clear hcz6_1
                try clear hcz6_2
                try clear hcz6_3
                try clear hcz6_4
                try clear hfz10_0
                try clear hfz10_1
                try clear hfz10_2
                try clear hfz10_3
                try clear hfz10_4
                try clear hfz12_0
                try clear hfz12_1
                try clear hfz12_2
                try clear hfz12_3
                try clear hfz12_4
                try clear hfz20_0
                try clear hfz20_1
                try clear hfz20_2
                try clear hfz20_3
                try clear hfz20_4
                try clear hfz6_0
                try clear hfz6_1
                try clear hfz6_2
                try clear hfz6_3
                try clear hfz6_4
                try clear hx120_0
                try clear hx120_1
                try clear hx120_2
                try clear hx120_3
                try clear hx120_4
                try clear p120
                try clear p2
                try clear q120
                obtain ⟨x6_2, x30_2, rfl, rfl, HA, HK2, HO_5, HO_16, BK115, BK121, HR120_3, HR120_4, HB⟩ := hrel
                cases gk with
                | zero => exact absurd HA.out (by simp [sealringlaw07_Few.l1])
                | succ k2 =>
                  have H := HA.out
                  clear HA
                  simp only [sealringlaw07_Few.l1] at H
                  by_cases c21 : x30_2 < (((rd_T25 t117 x18_1).f3).length : Int)
                  · rw [if_pos c21] at H
                    have c21b0 : decide (x30_2 < (((rd_T25 t117 x18_1).f3).length : Int)) = true := decide_eq_true c21
                    clear c21
                    by_cases c22 : 0 ≤ x30_2
                    · rw [if_pos c22] at H
                      have c22b0 : decide (0 ≤ x30_2) = true := decide_eq_true c22
                      clear c22
                      by_cases c23 : x30_2 < (((rd_T25 t117 x18_1).f3).length : Int)
                      · rw [if_pos c23] at H
                        have c23b0 : decide (x30_2 < (((rd_T25 t117 x18_1).f3).length : Int)) = true := decide_eq_true c23
                        clear c23
                        have H' := Aside0.mk H
                        clear H
                        have p122 : 0 ≤ (x30_2 : Int) := of_decide_eq_true (by first | (with_reducible assumption) | assumption)
                        have q122 : x30_2 < (((rd_T25 t117 x18_1).f3).length : Int) := of_decide_eq_true (by first | (with_reducible assumption) | assumption)
                        obtain ⟨ad122, e122, hx122_0⟩ := Kd.at_string HR120_3.out x30_2 p122 q122
                        cases e122
                        (try replace hx122_0 := (HB.out.cell (World.block_lt_of_cell? w _ hx122_0)).trans hx122_0)
                        replace p122 := eq_true p122
                        replace q122 := eq_true q122
                        go_wp2
                        go_roundg k2
                        case measure => have := HK1.out; have := HK2.out; omega
                        case rel => exact ⟨(wrap64 (x6_2 + (wrap64 (((rdOf ByteArray.empty ((rd_T25 t117 x18_1).f3) x30_2).size : Int) + 1)))), (wrap64 (x30_2 + 1)), (by first | rfl | (simp; done) | (simp [*]; done)), (by first | rfl | (simp; done) | (simp [*]; done)), (by first | with_reducible exact H' | exact H' | (subst_vars; exact H')), ⟨by have := HK1.out; have := HK2.out; omega⟩, ⟨by (with_reducible repeat (first | apply Kd.N_alloc | apply Kd.N_drewN | apply Kd.N_drew)); exact HO_5.out⟩, ⟨by (with_reducible repeat (first | apply Kd.N_alloc | apply Kd.N_drewN | apply Kd.N_drew)); exact HO_16.out⟩, ⟨by (with_reducible repeat (first | refine blk_drewN ?_ _ | refine blk_drew ?_ | refine blk_alloc ?_ _)); exact BK115.out⟩, ⟨by (with_reducible repeat (first | refine blk_drewN ?_ _ | refine blk_drew ?_ | refine blk_alloc ?_ _)); exact BK121.out⟩, ⟨by repeat (first | (with_reducible exact HR120_3.out) | (with_reducible refine Kd.C_alloc ?_ _) | (with_reducible refine Kd.C_drewN ?_ _) | (with_reducible refine Kd.C_drew ?_) | exact HR120_3.out)⟩, ⟨by repeat (first | (with_reducible exact HR120_4.out) | (with_reducible refine Kd.C_alloc ?_ _) | (with_reducible refine Kd.C_drewN ?_ _) | (with_reducible refine Kd.C_drew ?_) | exact HR120_4.out)⟩, ⟨by repeat (first | (with_reducible first | exact HB.out | apply below_alloc | apply pw_below_drewN | apply below_drew1 | refine below_set ?_ GE115.out | refine below_set ?_ GE121.out) | exact HB.out)⟩⟩
                      · rw [if_neg c23] at H
                        exact absurd H (by simp)
                    · rw [if_neg c22] at H
                      exact absurd H (by simp)
                  · rw [if_neg c21] at H
                    have c21b0 : decide (x30_2 < (((rd_T25 t117 x18_1).f3).length : Int)) = false := decide_eq_false c21
                    clear c21
                    have H' := Aside0.mk H
                    clear H
                    go_wp2
                    go_roundg k2
                    case measure => have := HK1.out; have := HK2.out; omega
                    case rel => exact ⟨(x6_2), (wrap64 (x18_1 + 1)), (by first | rfl | (simp; done) | (simp [*]; done)), (by first | rfl | (simp; done) | (simp [*]; done)), (by first | with_reducible exact H' | exact H' | (subst_vars; exact H')), ⟨by have := HK1.out; have := HK2.out; omega⟩, ⟨by (with_reducible repeat (first | apply Kd.N_alloc | apply Kd.N_drewN | apply Kd.N_drew)); exact Kd.N_mono HO_5.out (fun _ hk => hk.1)⟩, ⟨by (with_reducible repeat (first | apply Kd.N_alloc | apply Kd.N_drewN | apply Kd.N_drew)); exact Kd.N_mono HO_16.out (fun _ hk => hk.1)⟩, ⟨by (with_reducible repeat (first | refine blk_drewN ?_ _ | refine blk_drew ?_ | refine blk_alloc ?_ _)); exact BK115.out⟩, ⟨by repeat (first | (with_reducible first | exact HB.out | apply below_alloc | apply pw_below_drewN | apply below_drew1 | refine below_set ?_ GE115.out | refine below_set ?_ GE121.out) | exact HB.out)⟩⟩
            · rw [if_neg c17] at H
              exact absurd H (by simp)
          · rw [if_neg c16] at H
            exact absurd H (by simp)
        · rw [if_neg c15] at H
          have c15b0 : decide (x18_1 < (t117.length : Int)) = false := decide_eq_false c15
          clear c15
          by_cases c24 : (t117.length : Int) ≤ a1
          · rw [if_pos c24] at H
            have c24b0 : decide ((t117.length : Int) ≤ a1) = true := decide_eq_true c24
            clear c24
            obtain rfl := Option.some.inj H
            go_wp2
            go_ret
            exact ⟨by first | rfl | (simp [errW_none, errW_some] <;> rfl) | (simp [*, errW_none, errW_some] <;> rfl), by repeat (first | (with_reducible first | exact HB.out | apply below_alloc | apply pw_below_drewN | apply below_drew1 | refine below_set ?_ GE115.out) | exact HB.out)⟩
          · rw [if_neg c24] at H
            have c24b0 : decide ((t117.length : Int) ≤ a1) = false := decide_eq_false c24
            clear c24
            obtain rfl := Option.some.inj H
            go_wp2
            go_ret
            exact ⟨by first | rfl | (simp [errW_none, errW_some] <;> rfl) | (simp [*, errW_none, errW_some] <;> rfl), by repeat (first | (with_reducible first | exact HB.out | apply below_alloc | apply pw_below_drewN | apply below_drew1 | refine below_set ?_ GE115.out) | exact HB.out)⟩
end Go.Proofs.Ytbnmcnghmnhigaa.X
end
section
namespace Go.Proofs.Ytbnmcnghmnhigaa.X
open Go.RowKit Go.Proofs.YtbnmcnghmnhigaaW.PrintWords Go.Proofs.YtbnmcnghmnhigaaW.PrintLast Go.Proofs.YtbnmcnghmnhigaaW.PrintMore
attribute [local go_sem] max2_int min2_int max_two min_two max_three min_three max_four min_four
set_option linter.unusedVariables false
set_option linter.unusedSimpArgs false
def tree_entries.l0 : Nat → List (S119) → Int → Int → Int → Int → ByteArray → List ByteArray → List (S25) → Option ((List (S119)))
  | 0, _, _, _, _, _, _, _, _ => none
  | k + 1, x3, x11, x12, x124000, x124001, x124002, x124003, x124004 => if x12 < x11 then (if 0 ≤ x12 then (if x12 < (x124003.length : Int) then (if x12 < (x124004.length : Int) then (if x3.length < 1466015503701 then (tree_entries.l0 k (x3 ++ [(⟨rdOf ByteArray.empty x124003 x12, (⟨(rd_T25 x124004 x12).f0, (rd_T25 x124004 x12).f1, (rd_T25 x124004 x12).f2, (rd_T25 x124004 x12).f3, (rd_T25 x124004 x12).f4⟩ : S25)⟩ : S119)]) x11 (wrap64 (x12 + 1)) x124000 x124001 x124002 x124003 x124004) else (none)) else (none)) else (none)) else (none)) else (some x3)
def tree_entries.f (k : Nat) (a0_0 : Int) (a0_1 : Int) (a0_2 : ByteArray) (l0_3 : List ByteArray) (l0_4 : List (S25)) : Option ((List (S119))) := tree_entries.l0 k ([] : List (S119)) (mn (l0_3.length : Int) (l0_4.length : Int)) 0 a0_0 a0_1 a0_2 l0_3 l0_4
theorem tree_entries.mono_l : ∀ k, (∀ y0 y1 y2 y3 y4 y5 y6 y7, LeO (tree_entries.l0 k y0 y1 y2 y3 y4 y5 y6 y7) (tree_entries.l0 (k + 1) y0 y1 y2 y3 y4 y5 y6 y7))
  | 0 => fun _ _ _ _ _ _ _ _ r h => by simp [tree_entries.l0] at h
  | k + 1 => by
    have ih0 := tree_entries.mono_l k
    · intro y0 y1 y2 y3 y4 y5 y6 y7
      unfold tree_entries.l0
      repeat' first
      | (with_reducible exact ih0 _ _ _ _ _ _ _ _)
      | (with_reducible exact LeO.refl _)
      | (with_reducible exact LeO.none _)
      | (with_reducible refine LeO.ite ?_ ?_)
      | (with_reducible refine LeO.bind ?_ (fun _ => ?_))
      | exact ih0 _ _ _ _ _ _ _ _
      | exact LeO.none _
      | refine LeO.ite ?_ ?_
      | refine LeO.bind ?_ (fun _ => ?_)
theorem tree_entries.mono : ∀ a0 a1 a2 a3 a4 k, LeO (tree_entries.f k a0 a1 a2 a3 a4) (tree_entries.f (k + 1) a0 a1 a2 a3 a4) := by
  intro a0 a1 a2 a3 a4 k
  have ih0 := tree_entries.mono_l k
  unfold tree_entries.f
  repeat' first
      | (with_reducible exact ih0 _ _ _ _ _ _ _ _)
      | (with_reducible exact LeO.refl _)
      | (with_reducible exact LeO.none _)
      | (with_reducible refine LeO.ite ?_ ?_)
      | (with_reducible refine LeO.bind ?_ (fun _ => ?_))
      | exact ih0 _ _ _ _ _ _ _ _
      | exact LeO.none _
      | refine LeO.ite ?_ ?_
      | refine LeO.bind ?_ (fun _ => ?_)
def tree_entries.T5 : Bool × List (List Nat × List Nat) := (true, [([], []), ([], []), ([1], [1]), ([], []), ([2, 3], [2, 3]), ([4], [4]), ([], []), ([6], [6]), ([], []), ([7, 8], [7, 8]), ([9], [9]), ([5, 10], [5, 10]), ([11], [11]), ([0, 12], [0, 12]), ([13, 13, 0, 1, 2, 3, 4, 5, 6, 7, 8, 9, 10, 11, 12, 13], [0, 13])])
def tree_entries.B5 : List Nat := [0, 0, 2, 0, 14, 30, 0, 64, 0, 448, 960, 2046, 4094, 8191, 16383]
theorem tree_entries.tab5 : rtab .any (opsOf Try.f94 5) = tree_entries.T5 := by kernel_rfl
theorem tree_entries.bits5 : waitsOk tree_entries.T5.2 tree_entries.B5 = true := by kernel_rfl
set_option maxHeartbeats 8000000 in
set_option maxRecDepth 100000 in
theorem tree_entries.calls (k : Nat) (a0_0 : Int) (a0_1 : Int) (a0_2 : ByteArray) (A0_3 : Option Addr) (c0_3 : Nat) (l0_3 : List ByteArray) (P0_4_ : Nat → Prop) (A0_4 : Option Addr) (c0_4 : Nat) (l0_4 : List (S25)) (r : List (S119)) (w : World) (hr0_3 : Kd.C Kd.string w A0_3 l0_3.length l0_3) (hc0_3 : l0_3.length ≤ c0_3) (hs0_4 : Kd.V k25 25 w w.heap.size (fun k_ => P0_4_ k_) (.slice A0_4 l0_4.length c0_4) l0_4) (h : tree_entries.f k a0_0 a0_1 a0_2 l0_3 l0_4 = some r) :
    Calls Try.prog 94 #[.agg #[.int .i64 a0_0, .int .i64 a0_1, .string a0_2, .slice A0_3 l0_3.length c0_3, .slice A0_4 l0_4.length c0_4]] w fun e w' => ∃ v0_ : Value, e = .returned (v0_) ∧ Kd.N k119 119 w' w.heap.size (fun k_ => (P0_4_ k_ ∨ w.heap.size ≤ k_)) v0_ r ∧ Below w.heap.size w w' := by
  have hu25 := Try.underlying25
  have hu119 := Try.underlying119
  have HR0_3 := Aside0.mk hr0_3
  have HC0_3 := Aside0.mk hc0_3
  clear hr0_3 hc0_3
  have HO0_4 := Aside0.mk (show Kd.V k25 25 w w.heap.size (fun k_ => (P0_4_ k_ ∨ w.heap.size ≤ k_)) (.slice A0_4 l0_4.length c0_4) l0_4 from Kd.V_mono hs0_4 (fun k_ hk => .inl hk))
  have HB := Aside0.mk (Below.refl w.heap.size w)
  have H : (tree_entries.l0 k ([] : List (S119)) (mn (l0_3.length : Int) (l0_4.length : Int)) 0 a0_0 a0_1 a0_2 l0_3 l0_4) = some r := h
  clear h
  obtain ⟨ji2, hji2⟩ : ∃ j_ : Int, (mn (l0_3.length : Int) (l0_4.length : Int)) = j_ := ⟨_, rfl⟩
  replace H : (tree_entries.l0 k ([] : List (S119)) ji2 0 a0_0 a0_1 a0_2 l0_3 l0_4) = some r := by first | (rw [hji2] at H; exact H) | (simp only [hji2] at H ⊢; exact H)
  (try (have hji2l : 0 ≤ ji2 := by (rw [← hji2]; unfold mn; (repeat' split) <;> omega)))
  (try (have hji2m : 0 ≤ ji2 := by omega))
  have hji2_ : (if (l0_4.length : Int) < (l0_3.length : Int) then (l0_4.length : Int) else (l0_3.length : Int)) = ji2 := hji2
  have hji2n_ : (if l0_4.length < l0_3.length then (l0_4.length : Int) else (l0_3.length : Int)) = ji2 := by rw [← hji2_]; (repeat' split) <;> omega
  have H' := Aside0.mk H
  clear H
  go_enter Try.func94, Try.ntmps94
  go_wp2_with (first | ((with_reducible refine gate_dst (N := 1) rfl ?_); refine box_event ?hg (N := 1) ?hd (cs := #[.int .i64 a0_0, .int .i64 a0_1, .string a0_2, .slice A0_3 l0_3.length c0_3, .slice A0_4 l0_4.length c0_4]) (t := 25) ?hr ?_; (case hd => rfl); (case hg => rfl); (case hr => first | (go_simp; done) | (go_simp; rfl)); intro gb123 hg w3 hbox hb; have n0_ := Aside0.mk (Kd.V_below (Kd.V_elderB (by (with_reducible repeat (first | apply Kd.V_alloc | apply Kd.V_drewN | apply Kd.V_drew)); exact HO0_4.out) gb123 (Nat.le_of_eq hg.symm)) hb); have n1_ := Aside0.mk (below_step (by repeat (first | (with_reducible first | exact HB.out | apply below_alloc | apply pw_below_drewN | apply below_drew1) | exact HB.out)) hb); have n2_ := Aside0.mk (hbox); have n3_ := Aside0.mk ((by rw [hg]; exact (below_size (by repeat (first | (with_reducible first | exact HB.out | apply below_alloc | apply pw_below_drewN | apply below_drew1) | exact HB.out))) : w.heap.size ≤ gb123)); have n4_ := Aside0.mk ((by rw [hg]; exact (below_size (by repeat (first | (with_reducible first | exact HB.out | apply below_alloc | apply pw_below_drewN | apply below_drew1) | exact HB.out))) : w.heap.size ≤ gb123)); clear HO0_4; clear HB; have HO0_4 := n0_; have HB := n1_; have BK123 := n2_; have GW123 := n3_; have GE123 := n4_; clear n0_ n1_ n2_ n3_ n4_; clear hb hbox hg; have hcz4_0 : w3.cell? ⟨gb123, 0, none⟩ = some (.int .i64 a0_0) := (blk_cell BK123.out 0).trans rfl; have hcz4_1 : w3.cell? ⟨gb123, 1, none⟩ = some (.int .i64 a0_1) := (blk_cell BK123.out 1).trans rfl; have hcz4_2 : w3.cell? ⟨gb123, 2, none⟩ = some (.string a0_2) := (blk_cell BK123.out 2).trans rfl; have hcz4_3 : w3.cell? ⟨gb123, 3, none⟩ = some (.slice A0_3 l0_3.length c0_3) := (blk_cell BK123.out 3).trans rfl; have hcz4_4 : w3.cell? ⟨gb123, 4, none⟩ = some (.slice A0_4 l0_4.length c0_4) := (blk_cell BK123.out 4).trans rfl; have hfz4_0 := blk_frozen BK123.out 0; have hfz4_1 := blk_frozen BK123.out 1; have hfz4_2 := blk_frozen BK123.out 2; have hfz4_3 := blk_frozen BK123.out 3; have hfz4_4 := blk_frozen BK123.out 4))
  go_loopg [3, 12] k (fun kq v3 v12 w' => ∃ (x3_1 : List (S119)) (x12_1 : Int), v12 = .int .i64 x12_1 ∧ Aside0 (tree_entries.l0 kq x3_1 ji2 x12_1 a0_0 a0_1 a0_2 l0_3 l0_4 = some r) ∧ Aside0 (kq ≤ k) ∧ Aside0 (Kd.N k119 119 w' w.heap.size (fun k_ => (P0_4_ k_ ∨ w.heap.size ≤ k_) ∧ k_ ≠ gb123) v3 x3_1) ∧ Aside0 (Kd.V k25 25 w' w.heap.size (fun k_ => (P0_4_ k_ ∨ w.heap.size ≤ k_) ∧ some k_ ≠ (v3 : Value).ownBlock ∧ k_ ≠ gb123) (.slice A0_4 l0_4.length c0_4) l0_4) ∧ Aside0 (w'.heap[gb123]? = some (.cells #[.int .i64 a0_0, .int .i64 a0_1, .string a0_2, (.slice A0_3 l0_3.length c0_3), (.slice A0_4 l0_4.length c0_4)] 25 (0, 0))) ∧ Aside0 (Below w.heap.size w w'))
  case atStart => exact ⟨(([] : List (S119))), (0), (by first | rfl | (simp; done) | (simp [*]; done)), (by first | with_reducible exact H' | exact H' | (subst_vars; exact H')), ⟨Nat.le_refl _⟩, ⟨by first | exact Kd.R_nil _ _ _ _ _ | exact Kd.N_nil _ _ _ _ _ | exact Kd.V_nil _ _ _ _ _ | exact Kd.Q_nil _ _ _ _ _ | exact Kd.S_nil _ _ _ _ _⟩, ⟨by (with_reducible repeat (first | apply Kd.V_alloc | apply Kd.V_drewN | apply Kd.V_drew)); exact Kd.V_mono HO0_4.out (fun _ hk => ⟨hk.1, ⟨(by simp [Value.ownBlock]), hk.2⟩⟩)⟩, ⟨by (with_reducible repeat (first | refine blk_drewN ?_ _ | refine blk_drew ?_ | refine blk_alloc ?_ _)); exact BK123.out⟩, ⟨by repeat (first | (with_reducible first | exact HB.out | apply below_alloc | apply pw_below_drewN | apply below_drew1 | refine below_set ?_ GE123.out) | exact HB.out)⟩⟩
  case round =>
    clear H'
    try clear p2
    try clear hcz4_0
    try clear hcz4_1
    try clear hcz4_2
    try clear hcz4_3
    try clear hcz4_4
    try clear hfz4_0
    try clear hfz4_1
    try clear hfz4_2
    try clear hfz4_3
    try clear hfz4_4
    obtain ⟨x3_1, x12_1, rfl, HA, HK1, HO_3, HO_124004, BK123, HB⟩ := hrel
    cases gk with
    | zero => exact absurd HA.out (by simp [tree_entries.l0])
    | succ k1 =>
      have H := HA.out
      clear HA
      simp only [tree_entries.l0] at H
      by_cases c5 : x12_1 < ji2
      · rw [if_pos c5] at H
        have c5b0 : decide (x12_1 < ji2) = true := decide_eq_true c5
        clear c5
        by_cases c6 : 0 ≤ x12_1
        · rw [if_pos c6] at H
          have c6b0 : decide (0 ≤ x12_1) = true := decide_eq_true c6
          clear c6
          by_cases c7 : x12_1 < (l0_3.length : Int)
          · rw [if_pos c7] at H
            have c7b0 : decide (x12_1 < (l0_3.length : Int)) = true := decide_eq_true c7
            clear c7
            by_cases c8 : x12_1 < (l0_4.length : Int)
            · rw [if_pos c8] at H
              have c8b0 : decide (x12_1 < (l0_4.length : Int)) = true := decide_eq_true c8
              clear c8
              by_cases c9 : x3_1.length < 1466015503701
              · rw [if_pos c9] at H
                have LMc9 := Aside0.mk c9
                clear c9
                obtain ⟨y126, hy126⟩ : ∃ y_ : List (S119), y_ = (x3_1 ++ [(⟨rdOf ByteArray.empty l0_3 x12_1, (⟨(rd_T25 l0_4 x12_1).f0, (rd_T25 l0_4 x12_1).f1, (rd_T25 l0_4 x12_1).f2, (rd_T25 l0_4 x12_1).f3, (rd_T25 l0_4 x12_1).f4⟩ : S25)⟩ : S119)]) := ⟨_, rfl⟩
                replace H : (tree_entries.l0 k1 y126 ji2 (wrap64 (x12_1 + 1)) a0_0 a0_1 a0_2 l0_3 l0_4) = some r := by first | (rw [hy126]; with_reducible exact H) | (have H2_ := (Option.bind_some _ _).symm.trans H; rw [hy126]; with_reducible exact H2_) | (have H2_ := (Option.bind_some _ _).symm.trans H; with_reducible exact H2_) | with_reducible exact H | (rw [hy126]; exact H) | exact H
                have Ny126 := Aside0.mk hy126
                clear hy126
                have H' := Aside0.mk H
                clear H
                try go_wp2
                have n0_ := Aside0.mk (Kd.N_drew HO_3.out)
                have n1_ := Aside0.mk (Kd.V_drew HO_124004.out)
                have n2_ := Aside0.mk (blk_drew BK123.out)
                have n3_ := Aside0.mk (below_drew1 HB.out)
                clear HO_3
                clear HO_124004
                clear BK123
                clear HB
                have HO_3 := n0_
                have HO_124004 := n1_
                have BK123 := n2_
                have HB := n3_
                clear n0_ n1_ n2_ n3_
                have p124 : 0 ≤ (x12_1 : Int) := of_decide_eq_true (by first | (with_reducible assumption) | assumption)
                have q124 : x12_1 < (l0_3.length : Int) := of_decide_eq_true (by first | (with_reducible assumption) | assumption)
                obtain ⟨ad124, e124, hx124_0⟩ := Kd.at_string HR0_3.out x12_1 p124 q124
                have hw124_0 := hx124_0
                cases e124
                (try replace hx124_0 := (HB.out.cell (World.block_lt_of_cell? w _ hx124_0)).trans hx124_0)
                replace p124 := eq_true p124
                replace q124 := eq_true q124
                have p125 : 0 ≤ (x12_1 : Int) := of_decide_eq_true (by first | (with_reducible assumption) | assumption)
                have q125 : x12_1 < (l0_4.length : Int) := of_decide_eq_true (by first | (with_reducible assumption) | assumption)
                obtain ⟨ad125, A125_3, c125_3, A125_4, c125_4, e125, hx125_0, hx125_1, hx125_2, hx125_3, hx125_4, hl125_3, hi125_3, hl125_4, hi125_4⟩ := at_T25 (Kd.V_reads' HO_124004.out).2.2 x12_1 p125 q125
                cases e125
                obtain ⟨ce125, hce125, hMe125, hcc125⟩ := Kd.V_get HO_124004.out z25 x12_1 p125 (by first | exact q125 | exact of_decide_eq_true (by first | (with_reducible assumption) | assumption) | (have e_ := (Kd.V_reads' HO_124004.out).1; omega))
                obtain ⟨ua125_3, uc125_3, ua125_4, uc125_4, rfl, ul125_3, ge125_3, ul125_4, ge125_4⟩ := k25_openF hMe125
                have hv125_3 := hcc125 3 _ rfl
                rw [add_field _ _ 3 (by omega)] at hv125_3
                replace hv125_3 := Option.some.inj (hv125_3.symm.trans hx125_3)
                injection hv125_3 with hva_ hvn_ hvc_
                rw [hva_] at ge125_3
                rw [hvc_] at ul125_3
                have HL125_3 := Aside0.mk (show Kd.V Kd.string 9 _ w.heap.size _ _ ((rd_T25 l0_4 x12_1).f3) from Kd.V_mk ul125_3 ge125_3)
                clear hva_ hvn_ hvc_ ge125_3 ul125_3
                have hv125_4 := hcc125 4 _ rfl
                rw [add_field _ _ 4 (by omega)] at hv125_4
                replace hv125_4 := Option.some.inj (hv125_4.symm.trans hx125_4)
                injection hv125_4 with hva_ hvn_ hvc_
                rw [hva_] at ge125_4
                rw [hvc_] at ul125_4
                have HL125_4 := Aside0.mk (show Kd.V k25 25 _ w.heap.size _ _ ((rd_T25 l0_4 x12_1).f4) from Kd.V_mk ul125_4 ge125_4)
                clear hva_ hvn_ hvc_ ge125_4 ul125_4
                clear hcc125 hce125
                have HR125_3 := Aside0.mk hi125_3
                have HC125_3 := Aside0.mk hl125_3
                clear hi125_3 hl125_3
                have HR125_4 := Aside0.mk hi125_4
                have HC125_4 := Aside0.mk hl125_4
                clear hi125_4 hl125_4
                replace p125 := eq_true p125
                replace q125 := eq_true q125
                refine start_ (n := 15) (S := fun w' => w'.cell? ⟨gb123, 0, none⟩ = some (.int .i64 a0_0) ∧ w'.cell? ⟨gb123, 1, none⟩ = some (.int .i64 a0_1) ∧ w'.cell? ⟨gb123, 2, none⟩ = some (.string a0_2) ∧ w'.cell? ⟨gb123, 3, none⟩ = some (.slice (some ad124) l0_3.length c0_3) ∧ w'.cell? ⟨gb123, 4, none⟩ = some (.slice (some ad125) l0_4.length c0_4) ∧ w'.cell? (ad124.add (x12_1).toNat) = some (.string (rdOf ByteArray.empty l0_3 x12_1)) ∧ w'.cell? (ad125.add ((x12_1).toNat * 5)) = some (.int .i64 ((rd_T25 l0_4 x12_1).f0)) ∧ w'.cell? ⟨(ad125.add ((x12_1).toNat * 5)).block, (ad125.add ((x12_1).toNat * 5)).off + 1, none⟩ = some (.int .i64 ((rd_T25 l0_4 x12_1).f1)) ∧ w'.cell? ⟨(ad125.add ((x12_1).toNat * 5)).block, (ad125.add ((x12_1).toNat * 5)).off + 2, none⟩ = some (.string ((rd_T25 l0_4 x12_1).f2)) ∧ w'.cell? ⟨(ad125.add ((x12_1).toNat * 5)).block, (ad125.add ((x12_1).toNat * 5)).off + 3, none⟩ = some (.slice A125_3 ((rd_T25 l0_4 x12_1).f3).length c125_3) ∧ w'.cell? ⟨(ad125.add ((x12_1).toNat * 5)).block, (ad125.add ((x12_1).toNat * 5)).off + 4, none⟩ = some (.slice A125_4 ((rd_T25 l0_4 x12_1).f4).length c125_4)) (ds := [12, 13]) #[false, false, false, false, false, false, false, false, false, false, false, false, false, false, false] (by kernel_rfl) rfl rfl ⟨(blk_cell BK123.out 0).trans rfl, (blk_cell BK123.out 1).trans rfl, (blk_cell BK123.out 2).trans rfl, (blk_cell BK123.out 3).trans rfl, (blk_cell BK123.out 4).trans rfl, ((HB.out.cell (World.block_lt_of_cell? w _ hw124_0)).trans hw124_0), hx125_0, hx125_1, hx125_2, hx125_3, hx125_4⟩ (fun hHeld => ?_); refine with_tabW tree_entries.tab5 tree_entries.bits5 (fun HT_ HW_ => ?_)
                generalize wr.drew = w10 at HO_3 HO_124004 BK123 HB HL125_3 HL125_4 HR125_3 HR125_4 hx124_0 hx125_0 hx125_1 hx125_2 hx125_3 hx125_4 hHeld ⊢
                refine pure_ (i := 0) (N := some 15) (v := ?_) (a' := ?_) #[true, false, false, false, false, false, false, false, false, false, false, false, false, false, false] rfl rfl (any_of HT_.out (by kernel_rfl)) (fun _ _ _ h => h) (Or.inl ⟨by rfl, ?_⟩) ?_ ?_
                rotate_left
                · intro w'
                  go_simp
                  with_reducible rfl
                rotate_left
                · simp only [Act.put, List.setIfInBounds_toArray, List.set_cons_zero, List.set_cons_succ, i64_w, i32_w]
                  rfl
                refine pure_ (i := 1) (N := some 16) (v := ?_) (a' := ?_) #[true, true, false, false, false, false, false, false, false, false, false, false, false, false, false] rfl rfl (any_of HT_.out (by kernel_rfl)) (fun _ _ _ h => h) (Or.inl ⟨by rfl, ?_⟩) ?_ ?_
                rotate_left
                · intro w'
                  go_simp
                  with_reducible rfl
                rotate_left
                · simp only [Act.put, List.setIfInBounds_toArray, List.set_cons_zero, List.set_cons_succ, i64_w, i32_w]
                  rfl
                refine pure_ (i := 3) (N := some 18) (v := ?_) (a' := ?_) #[true, true, false, true, false, false, false, false, false, false, false, false, false, false, false] rfl rfl (any_of HT_.out (by kernel_rfl)) (fun _ _ _ h => h) (Or.inl ⟨by rfl, ?_⟩) ?_ ?_
                rotate_left
                · intro w'
                  go_simp
                  with_reducible rfl
                rotate_left
                · simp only [Act.put, List.setIfInBounds_toArray, List.set_cons_zero, List.set_cons_succ, i64_w, i32_w]
                  rfl
                refine pure_ (i := 6) (N := some 21) (v := ?_) (a' := ?_) #[true, true, false, true, false, false, true, false, false, false, false, false, false, false, false] rfl rfl (any_of HT_.out (by kernel_rfl)) (fun _ _ _ h => h) (Or.inl ⟨by rfl, ?_⟩) ?_ ?_
                rotate_left
                · intro w'
                  go_simp
                  with_reducible rfl
                rotate_left
                · simp only [Act.put, List.setIfInBounds_toArray, List.set_cons_zero, List.set_cons_succ, i64_w, i32_w]
                  rfl
                refine pure_ (i := 8) (N := some 23) (v := ?_) (a' := ?_) #[true, true, false, true, false, false, true, false, true, false, false, false, false, false, false] rfl rfl (any_of HT_.out (by kernel_rfl)) (fun _ _ _ h => h) (Or.inl ⟨by rfl, ?_⟩) ?_ ?_
                rotate_left
                · intro w'
                  go_simp
                  with_reducible rfl
                rotate_left
                · simp only [Act.put, List.setIfInBounds_toArray, List.set_cons_zero, List.set_cons_succ, i64_w, i32_w]
                  rfl
                refine take_ (i := 2) (N := some 17) (v := ?_) (a' := ?_) #[true, true, true, true, false, false, true, false, true, false, false, false, false, false, false] rfl rfl (take_ofW HT_.out HW_.out (by kernel_rfl)) (fun _ _ _ h => h) (Or.inl ⟨by rfl, ?_⟩) hHeld ?_ ?_
                rotate_left
                · rintro w' ⟨s0, s1, s2, s3, s4, s5, s6, s7, s8, s9, s10⟩
                  go_simp
                  with_reducible rfl
                rotate_left
                · simp only [Act.put, List.setIfInBounds_toArray, List.set_cons_zero, List.set_cons_succ, i64_w, i32_w]
                  rfl
                refine pure_ (i := 4) (N := some 19) (v := ?_) (a' := ?_) #[true, true, true, true, true, false, true, false, true, false, false, false, false, false, false] rfl rfl (any_of HT_.out (by kernel_rfl)) (fun _ _ _ h => h) (Or.inl ⟨by rfl, ?_⟩) ?_ ?_
                rotate_left
                · intro w'
                  go_simp
                  with_reducible rfl
                rotate_left
                · simp only [Act.put, List.setIfInBounds_toArray, List.set_cons_zero, List.set_cons_succ, i64_w, i32_w]
                  rfl
                refine take_ (i := 5) (N := some 20) (v := ?_) (a' := ?_) #[true, true, true, true, true, true, true, false, true, false, false, false, false, false, false] rfl rfl (take_ofW HT_.out HW_.out (by kernel_rfl)) (fun _ _ _ h => h) (Or.inl ⟨by rfl, ?_⟩) hHeld ?_ ?_
                rotate_left
                · rintro w' ⟨s0, s1, s2, s3, s4, s5, s6, s7, s8, s9, s10⟩
                  go_simp
                  with_reducible rfl
                rotate_left
                · simp only [Act.put, List.setIfInBounds_toArray, List.set_cons_zero, List.set_cons_succ, i64_w, i32_w]
                  rfl
                refine take_ (i := 7) (N := some 22) (v := ?_) (a' := ?_) #[true, true, true, true, true, true, true, true, true, false, false, false, false, false, false] rfl rfl (take_ofW HT_.out HW_.out (by kernel_rfl)) (fun _ _ _ h => h) (Or.inl ⟨by rfl, ?_⟩) hHeld ?_ ?_
                rotate_left
                · rintro w' ⟨s0, s1, s2, s3, s4, s5, s6, s7, s8, s9, s10⟩
                  go_simp
                  with_reducible rfl
                rotate_left
                · simp only [Act.put, List.setIfInBounds_toArray, List.set_cons_zero, List.set_cons_succ, i64_w, i32_w]
                  rfl
                refine pure_ (i := 9) (N := some 24) (v := ?_) (a' := ?_) #[true, true, true, true, true, true, true, true, true, true, false, false, false, false, false] rfl rfl (any_of HT_.out (by kernel_rfl)) (fun _ _ _ h => h) (Or.inl ⟨by rfl, ?_⟩) ?_ ?_
                rotate_left
                · intro w'
                  go_simp
                  with_reducible rfl
                rotate_left
                · simp only [Act.put, List.setIfInBounds_toArray, List.set_cons_zero, List.set_cons_succ, i64_w, i32_w]
                  rfl
                refine take_ (i := 10) (N := some 25) (v := ?_) (a' := ?_) #[true, true, true, true, true, true, true, true, true, true, true, false, false, false, false] rfl rfl (take_ofW HT_.out HW_.out (by kernel_rfl)) (fun _ _ _ h => h) (Or.inl ⟨by rfl, ?_⟩) hHeld ?_ ?_
                rotate_left
                · rintro w' ⟨s0, s1, s2, s3, s4, s5, s6, s7, s8, s9, s10⟩
                  go_simp
                  with_reducible rfl
                rotate_left
                · simp only [Act.put, List.setIfInBounds_toArray, List.set_cons_zero, List.set_cons_succ, i64_w, i32_w]
                  rfl
                refine pure_ (i := 11) (N := some 26) (v := ?_) (a' := ?_) #[true, true, true, true, true, true, true, true, true, true, true, true, false, false, false] rfl rfl (any_of HT_.out (by kernel_rfl)) (fun _ _ _ h => h) (Or.inl ⟨by rfl, ?_⟩) ?_ ?_
                rotate_left
                · intro w'
                  go_simp
                  with_reducible rfl
                rotate_left
                · simp only [Act.put, List.setIfInBounds_toArray, List.set_cons_zero, List.set_cons_succ, i64_w, i32_w]
                  rfl
                refine last_ (i := 12) (N := some 27) #[true, true, true, true, true, true, true, true, true, true, true, true, true, false, false] rfl rfl (one_of HT_.out (by kernel_rfl)) (by decide) (fun K hK => ?_)
                refine value_ (w1 := ?_) (v := ?_) (by rfl) rfl ?_ ?_
                rotate_left 2
                · go_simp
                  constructor
                  · rfl
                  · rfl
                refine hK.out _ _ ?_
                clear hK K
                refine norm_ (a' := ?_) ?_ ?_
                rotate_left
                · show Act.put _ (some 27) _ = _
                  simp only [Act.put, List.setIfInBounds_toArray, List.set_cons_zero, List.set_cons_succ, i64_w, i32_w]
                  rfl
                refine last_ (i := 13) (N := some 28) #[true, true, true, true, true, true, true, true, true, true, true, true, true, true, false] rfl rfl (one_of HT_.out (by kernel_rfl)) (by decide) (fun K hK => ?_)
                refine Kd.N_append_step k119 (w0 := w) w.heap.size (by rfl) (.tmp 15) (.tmp 27) 115 119 (.agg #[(.string ⟨#[]⟩), (.int .i64 0), (.int .i64 0), (.string ⟨#[]⟩), (.slice none 0 0), (.slice none 0 0)]) 96 rfl Try.underlying115 info119 rfl (by decide) (by omega) u3 x3_1 (⟨rdOf ByteArray.empty l0_3 x12_1, (⟨(rd_T25 l0_4 x12_1).f0, (rd_T25 l0_4 x12_1).f1, (rd_T25 l0_4 x12_1).f2, (rd_T25 l0_4 x12_1).f3, (rd_T25 l0_4 x12_1).f4⟩ : S25)⟩ : S119) [.string (rdOf ByteArray.empty l0_3 x12_1), .int .i64 ((rd_T25 l0_4 x12_1).f0), .int .i64 ((rd_T25 l0_4 x12_1).f1), .string ((rd_T25 l0_4 x12_1).f2), .slice A125_3 ((rd_T25 l0_4 x12_1).f3).length c125_3, .slice A125_4 ((rd_T25 l0_4 x12_1).f4).length c125_4] (fun k_ => (P0_4_ k_ ∨ w.heap.size ≤ k_) ∧ k_ ≠ gb123) (fun k_ => ((fun k_ => (P0_4_ k_ ∨ w.heap.size ≤ k_) ∧ k_ ≠ gb123)) k_ ∧ some k_ ≠ (u3 : Value).ownBlock) rfl rfl ?aP (fun _ hk => hk) ?aF ?aO ?aB ?aS ?aL ?_
                (case aP => exact (k119_mkF _ _ (⟨rdOf ByteArray.empty l0_3 x12_1, (⟨(rd_T25 l0_4 x12_1).f0, (rd_T25 l0_4 x12_1).f1, (rd_T25 l0_4 x12_1).f2, (rd_T25 l0_4 x12_1).f3, (rd_T25 l0_4 x12_1).f4⟩ : S25)⟩ : S119) (Kd.V_reads' (Kd.V_mono (ok' := (fun k_ => ((fun k_ => (P0_4_ k_ ∨ w.heap.size ≤ k_) ∧ k_ ≠ gb123)) k_ ∧ some k_ ≠ (u3 : Value).ownBlock)) (HL125_3.out) (fun k_ hk => ⟨⟨hk.1, hk.2.2⟩, hk.2.1⟩))).2.1 (Kd.V_F (Kd.V_mono (ok' := (fun k_ => ((fun k_ => (P0_4_ k_ ∨ w.heap.size ≤ k_) ∧ k_ ≠ gb123)) k_ ∧ some k_ ≠ (u3 : Value).ownBlock)) (HL125_3.out) (fun k_ hk => ⟨⟨hk.1, hk.2.2⟩, hk.2.1⟩))) (Kd.V_reads' (Kd.V_mono (ok' := (fun k_ => ((fun k_ => (P0_4_ k_ ∨ w.heap.size ≤ k_) ∧ k_ ≠ gb123)) k_ ∧ some k_ ≠ (u3 : Value).ownBlock)) (HL125_4.out) (fun k_ hk => ⟨⟨hk.1, hk.2.2⟩, hk.2.1⟩))).2.1 (Kd.V_F (Kd.V_mono (ok' := (fun k_ => ((fun k_ => (P0_4_ k_ ∨ w.heap.size ≤ k_) ∧ k_ ≠ gb123)) k_ ∧ some k_ ≠ (u3 : Value).ownBlock)) (HL125_4.out) (fun k_ hk => ⟨⟨hk.1, hk.2.2⟩, hk.2.1⟩)))))
                (case aB => exact (by repeat (first | (with_reducible first | exact HB.out | apply below_alloc | apply pw_below_drewN | apply below_drew1 | refine below_set ?_ GE123.out) | exact HB.out)))
                (case aF => exact (fun k_ hk => ⟨(.inr (Nat.le_trans (below_size (by repeat (first | (with_reducible first | exact HB.out | apply below_alloc | apply pw_below_drewN | apply below_drew1 | refine below_set ?_ GE123.out) | exact HB.out))) hk)), Kd.freshB (g := gb123) (o := .cells #[.int .i64 a0_0, .int .i64 a0_1, .string a0_2, .slice (some ad124) l0_3.length c0_3, .slice (some ad125) l0_4.length c0_4] 25 (0, 0)) (by (with_reducible repeat (first | refine blk_drewN ?_ _ | refine blk_drew ?_ | refine blk_alloc ?_ _)); exact BK123.out) k_ hk⟩))
                (case aO => exact (by (with_reducible repeat (first | apply Kd.N_alloc | apply Kd.N_drewN | apply Kd.N_drew)); exact HO_3.out))
                (case aS => exact (below_size (by repeat (first | (with_reducible first | exact HB.out | apply below_alloc | apply pw_below_drewN | apply below_drew1 | refine below_set ?_ GE123.out) | exact HB.out))))
                (case aL => have := LMc9.out; omega)
                intro v127 w11 ho hb hg hat
                rw [← Ny126.out] at ho
                have n0_ := Aside0.mk (Kd.V_afterv (ok := (fun k_ => (P0_4_ k_ ∨ w.heap.size ≤ k_) ∧ k_ ≠ gb123)) (by (with_reducible repeat (first | apply Kd.V_alloc | apply Kd.V_drewN | apply Kd.V_drew)); exact Kd.V_mono HO_124004.out (fun _ hk => ⟨⟨hk.1, hk.2.2⟩, hk.2.1⟩)) hg hat)
                have n1_ := Aside0.mk (blk_grown (g := gb123) (o := .cells #[.int .i64 a0_0, .int .i64 a0_1, .string a0_2, .slice (some ad124) l0_3.length c0_3, .slice (some ad125) l0_4.length c0_4] 25 (0, 0)) (by (with_reducible repeat (first | refine blk_drewN ?_ _ | refine blk_drew ?_ | refine blk_alloc ?_ _)); exact BK123.out) hg (Kd.N_ne HO_3.out BK123.out (by decide)))
                have n2_ := Aside0.mk (Kd.V_afterv (ok := (fun k_ => (P0_4_ k_ ∨ w.heap.size ≤ k_) ∧ k_ ≠ gb123)) (by (with_reducible repeat (first | apply Kd.V_alloc | apply Kd.V_drewN | apply Kd.V_drew)); exact Kd.V_mono HL125_3.out (fun _ hk => ⟨⟨hk.1, hk.2.2⟩, hk.2.1⟩)) hg hat)
                have n3_ := Aside0.mk (Kd.V_afterv (ok := (fun k_ => (P0_4_ k_ ∨ w.heap.size ≤ k_) ∧ k_ ≠ gb123)) (by (with_reducible repeat (first | apply Kd.V_alloc | apply Kd.V_drewN | apply Kd.V_drew)); exact Kd.V_mono HL125_4.out (fun _ hk => ⟨⟨hk.1, hk.2.2⟩, hk.2.1⟩)) hg hat)
                have n4_ := Aside0.mk (hb)
                have n5_ := Aside0.mk (ho)
                clear HO_124004
                clear BK123
                clear HL125_3
                clear HL125_4
                clear HB
                clear HO_3
                have HO_124004 := n0_
                have BK123 := n1_
                have HL125_3 := n2_
                have HL125_4 := n3_
                have HB := n4_
                have HO128 := n5_
                clear n0_ n1_ n2_ n3_ n4_ n5_
                clear ho hb hg hat
                refine hK.out _ _ ?_
                clear hK K
                refine norm_ (a' := ?_) ?_ ?_
                rotate_left
                · show Act.put _ (some 28) _ = _
                  simp only [Act.put, List.setIfInBounds_toArray, List.set_cons_zero, List.set_cons_succ, i64_w, i32_w]
                  rfl
                refine pure_ (i := 14) (N := some 3) (v := ?_) (a' := ?_) #[true, true, true, true, true, true, true, true, true, true, true, true, true, true, true] rfl rfl (any_of HT_.out (by kernel_rfl)) (fun _ _ _ h => h) (Or.inl ⟨by rfl, ?_⟩) ?_ ?_
                rotate_left
                · intro w'
                  go_simp
                  with_reducible rfl
                rotate_left
                · simp only [Act.put, List.setIfInBounds_toArray, List.set_cons_zero, List.set_cons_succ, i64_w, i32_w]
                  rfl
                refine done_ (done_of HT_.out (by kernel_rfl)) ?_
                try go_wp2
                go_roundg k1
                case measure => have := HK1.out; omega
                case rel => exact ⟨(y126), (wrap64 (x12_1 + 1)), (by first | rfl | (simp; done) | (simp [*]; done)), (by first | with_reducible exact H' | exact H' | (subst_vars; exact H')), ⟨by have := HK1.out; omega⟩, ⟨by (with_reducible repeat (first | apply Kd.N_alloc | apply Kd.N_drewN | apply Kd.N_drew)); exact HO128.out⟩, ⟨by (with_reducible repeat (first | apply Kd.V_alloc | apply Kd.V_drewN | apply Kd.V_drew)); exact Kd.V_mono HO_124004.out (fun _ hk => ⟨hk.1.1, ⟨hk.2, hk.1.2⟩⟩)⟩, ⟨by (with_reducible repeat (first | refine blk_drewN ?_ _ | refine blk_drew ?_ | refine blk_alloc ?_ _)); exact BK123.out⟩, ⟨by repeat (first | (with_reducible first | exact HB.out | apply below_alloc | apply pw_below_drewN | apply below_drew1 | refine below_set ?_ GE123.out) | exact HB.out)⟩⟩
              · rw [if_neg c9] at H
                exact absurd H (by simp)
            · rw [if_neg c8] at H
              exact absurd H (by simp)
          · rw [if_neg c7] at H
            exact absurd H (by simp)
        · rw [if_neg c6] at H
          exact absurd H (by simp)
      · rw [if_neg c5] at H
        have c5b0 : decide (x12_1 < ji2) = false := decide_eq_false c5
        clear c5
        obtain rfl := Option.some.inj H
        go_wp2
        go_ret
        exact ⟨_, by first | rfl | (simp [errW_none, errW_some] <;> rfl) | (simp only [← hji2]; first | rfl | (simp [errW_none, errW_some] <;> rfl)) | (simp [*, errW_none, errW_some] <;> rfl), by (with_reducible repeat (first | apply Kd.N_alloc | apply Kd.N_drewN | apply Kd.N_drew)); exact Kd.N_mono HO_3.out (fun _ hk => hk.1), by repeat (first | (with_reducible first | exact HB.out | apply below_alloc | apply pw_below_drewN | apply below_drew1 | refine below_set ?_ GE123.out) | exact HB.out)⟩
end Go.Proofs.Ytbnmcnghmnhigaa.X
end
section
namespace Go.Proofs.Ytbnmcnghmnhigaa.X
open Go.RowKit Go.Proofs.YtbnmcnghmnhigaaW.PrintWords Go.Proofs.YtbnmcnghmnhigaaW.PrintLast Go.Proofs.YtbnmcnghmnhigaaW.PrintMore
attribute [local go_sem] max2_int min2_int max_two min_two max_three min_three max_four min_four
set_option linter.unusedVariables false
set_option linter.unusedSimpArgs false
def tree_Get.l0 : Nat → ByteArray → List (S119) → Int → Int → Option (Int × Int × ByteArray × List ByteArray × (List (S25)) × Bool)
  | 0, _, _, _, _ => none
  | k + 1, x1, x12, x13, x14 => if x14 < x13 then (if 0 ≤ x14 then (if x14 < (x12.length : Int) then (if ((rd_T119 x12 x14).f0).toList = x1.toList then (some ((rd_T119 x12 x14).f1.f0, (rd_T119 x12 x14).f1.f1, (rd_T119 x12 x14).f1.f2, (rd_T119 x12 x14).f1.f3, (rd_T119 x12 x14).f1.f4, true)) else (tree_Get.l0 k x1 x12 x13 (wrap64 (x14 + 1)))) else (none)) else (none)) else (some (0, 0, (⟨#[]⟩ : ByteArray), ([] : List ByteArray), ([] : List (S25)), false))
def tree_Get.f (k : Nat) (a0_0 : Int) (a0_1 : Int) (a0_2 : ByteArray) (l0_3 : List ByteArray) (l0_4 : List (S25)) (a1 : ByteArray) : Option (Int × Int × ByteArray × List ByteArray × (List (S25)) × Bool) := if a0_0 = 6 then ((tree_entries.f k a0_0 a0_1 a0_2 l0_3 l0_4).bind fun t131 => (tree_Get.l0 k a1 t131 (t131.length : Int) 0)) else (some (0, 0, (⟨#[]⟩ : ByteArray), ([] : List ByteArray), ([] : List (S25)), false))
theorem tree_Get.mono_l : ∀ k, (∀ y0 y1 y2 y3, LeO (tree_Get.l0 k y0 y1 y2 y3) (tree_Get.l0 (k + 1) y0 y1 y2 y3))
  | 0 => fun _ _ _ _ r h => by simp [tree_Get.l0] at h
  | k + 1 => by
    have ih0 := tree_Get.mono_l k
    · intro y0 y1 y2 y3
      unfold tree_Get.l0
      repeat' first
      | (with_reducible exact ih0 _ _ _ _)
      | (with_reducible exact tree_entries.mono _ _ _ _ _ _)
      | (with_reducible exact LeO.refl _)
      | (with_reducible exact LeO.none _)
      | (with_reducible refine LeO.ite ?_ ?_)
      | (with_reducible refine LeO.bind ?_ (fun _ => ?_))
      | exact ih0 _ _ _ _
      | exact tree_entries.mono _ _ _ _ _ _
      | exact LeO.none _
      | refine LeO.ite ?_ ?_
      | refine LeO.bind ?_ (fun _ => ?_)
theorem tree_Get.mono : ∀ a0 a1 a2 a3 a4 a5 k, LeO (tree_Get.f k a0 a1 a2 a3 a4 a5) (tree_Get.f (k + 1) a0 a1 a2 a3 a4 a5) := by
  intro a0 a1 a2 a3 a4 a5 k
  have ih0 := tree_Get.mono_l k
  unfold tree_Get.f
  repeat' first
      | (with_reducible exact ih0 _ _ _ _)
      | (with_reducible exact tree_entries.mono _ _ _ _ _ _)
      | (with_reducible exact LeO.refl _)
      | (with_reducible exact LeO.none _)
      | (with_reducible refine LeO.ite ?_ ?_)
      | (with_reducible refine LeO.bind ?_ (fun _ => ?_))
      | exact ih0 _ _ _ _
      | exact tree_entries.mono _ _ _ _ _ _
      | exact LeO.none _
      | refine LeO.ite ?_ ?_
      | refine LeO.bind ?_ (fun _ => ?_)
set_option maxHeartbeats 8000000 in
set_option maxRecDepth 100000 in
theorem tree_Get.calls (k : Nat) (a0_0 : Int) (a0_1 : Int) (a0_2 : ByteArray) (A0_3 : Option Addr) (c0_3 : Nat) (l0_3 : List ByteArray) (P0_4_ : Nat → Prop) (A0_4 : Option Addr) (c0_4 : Nat) (l0_4 : List (S25)) (a1 : ByteArray) (r1 : Int) (r2 : Int) (r3 : ByteArray) (r4 : List ByteArray) (r5 : List (S25)) (r6 : Bool) (w : World) (hr0_3 : Kd.C Kd.string w A0_3 l0_3.length l0_3) (hc0_3 : l0_3.length ≤ c0_3) (hs0_4 : Kd.V k25 25 w w.heap.size (fun k_ => P0_4_ k_) (.slice A0_4 l0_4.length c0_4) l0_4) (h : tree_Get.f k a0_0 a0_1 a0_2 l0_3 l0_4 a1 = some (r1, r2, r3, r4, r5, r6)) :
    Calls Try.prog 61 #[.agg #[.int .i64 a0_0, .int .i64 a0_1, .string a0_2, .slice A0_3 l0_3.length c0_3, .slice A0_4 l0_4.length c0_4], .string a1] w fun e w' => ∃ v3_ v4_ : Value, e = .returned (.tuple #[.agg #[.int .i64 r1, .int .i64 r2, .string r3, v3_, v4_], .bool r6]) ∧ Kd.V Kd.string 9 w' w.heap.size (fun k_ => (P0_4_ k_ ∨ w.heap.size ≤ k_)) v3_ r4 ∧ Kd.V k25 25 w' w.heap.size (fun k_ => (P0_4_ k_ ∨ w.heap.size ≤ k_)) v4_ r5 ∧ Below w.heap.size w w' := by
  have hu25 := Try.underlying25
  have hu119 := Try.underlying119
  have HR0_3 := Aside0.mk hr0_3
  have HC0_3 := Aside0.mk hc0_3
  clear hr0_3 hc0_3
  have HO0_4 := Aside0.mk (show Kd.V k25 25 w w.heap.size (fun k_ => (P0_4_ k_ ∨ w.heap.size ≤ k_)) (.slice A0_4 l0_4.length c0_4) l0_4 from Kd.V_mono hs0_4 (fun k_ hk => .inl hk))
  have HB := Aside0.mk (Below.refl w.heap.size w)
  have H : (if a0_0 = 6 then ((tree_entries.f k a0_0 a0_1 a0_2 l0_3 l0_4).bind fun t131 => (tree_Get.l0 k a1 t131 (t131.length : Int) 0)) else (some (0, 0, (⟨#[]⟩ : ByteArray), ([] : List ByteArray), ([] : List (S25)), false))) = some (r1, r2, r3, r4, r5, r6) := h
  clear h
  by_cases c3 : a0_0 = 6
  · rw [if_pos c3] at H
    have c3b0 : (a0_0 == 6) = true := beq_iff_eq.mpr c3
    have c3b1 : (a0_0 != 6) = false := bne_eq_false_iff_eq.mpr c3
    clear c3
    replace H := Option.bind_eq_some_iff.mp H
    obtain ⟨t131, A40, H⟩ := H
    replace H : (tree_Get.l0 k a1 t131 (t131.length : Int) 0) = some (r1, r2, r3, r4, r5, r6) := H
    have A4 := Aside0.mk A40
    clear A40
    have H' := Aside0.mk H
    clear H
    go_enter Try.func61, Try.ntmps61
    go_wp2_with (first | ((with_reducible refine gate_dst (N := 2) rfl ?_); refine box_event ?hg (N := 2) ?hd (cs := #[.int .i64 a0_0, .int .i64 a0_1, .string a0_2, .slice A0_3 l0_3.length c0_3, .slice A0_4 l0_4.length c0_4]) (t := 25) ?hr ?_; (case hd => rfl); (case hg => rfl); (case hr => first | (go_simp; done) | (go_simp; rfl)); intro gb129 hg w5 hbox hb; have n0_ := Aside0.mk (Kd.V_below (Kd.V_elderB (by (with_reducible repeat (first | apply Kd.V_alloc | apply Kd.V_drewN | apply Kd.V_drew)); exact HO0_4.out) gb129 (Nat.le_of_eq hg.symm)) hb); have n1_ := Aside0.mk (below_step (by repeat (first | (with_reducible first | exact HB.out | apply below_alloc | apply pw_below_drewN | apply below_drew1) | exact HB.out)) hb); have n2_ := Aside0.mk (hbox); have n3_ := Aside0.mk ((by rw [hg]; exact (below_size (by repeat (first | (with_reducible first | exact HB.out | apply below_alloc | apply pw_below_drewN | apply below_drew1) | exact HB.out))) : w.heap.size ≤ gb129)); have n4_ := Aside0.mk ((by rw [hg]; exact (below_size (by repeat (first | (with_reducible first | exact HB.out | apply below_alloc | apply pw_below_drewN | apply below_drew1) | exact HB.out))) : w.heap.size ≤ gb129)); clear HO0_4; clear HB; have HO0_4 := n0_; have HB := n1_; have BK129 := n2_; have GW129 := n3_; have GE129 := n4_; clear n0_ n1_ n2_ n3_ n4_; clear hb hbox hg) | ((with_reducible refine gate_dst (N := 4) rfl ?_); refine box_event ?hg (N := 4) ?hd (cs := #[.int .i64 0, .int .i64 0, .string (⟨#[]⟩ : ByteArray), .slice none 0 0, .slice none 0 0]) (t := 25) ?hr ?_; (case hd => rfl); (case hg => rfl); (case hr => first | (go_simp; done) | (go_simp; rfl)); intro gb130 hg w6 hbox hb; have n0_ := Aside0.mk (Kd.V_below (Kd.V_elderB (by (with_reducible repeat (first | apply Kd.V_alloc | apply Kd.V_drewN | apply Kd.V_drew)); exact HO0_4.out) gb130 (Nat.le_of_eq hg.symm)) hb); have n1_ := Aside0.mk (blk_below (g := gb129) (o := .cells #[.int .i64 a0_0, .int .i64 a0_1, .string a0_2, .slice A0_3 l0_3.length c0_3, .slice A0_4 l0_4.length c0_4] 25 (0, 0)) (by (with_reducible repeat (first | refine blk_drewN ?_ _ | refine blk_drew ?_ | refine blk_alloc ?_ _)); exact BK129.out) hb); have n2_ := Aside0.mk (below_step (by repeat (first | (with_reducible first | exact HB.out | apply below_alloc | apply pw_below_drewN | apply below_drew1 | refine below_set ?_ GE129.out) | exact HB.out)) hb); have n3_ := Aside0.mk (hbox); have n4_ := Aside0.mk ((by rw [hg]; exact (below_size (by repeat (first | (with_reducible first | exact HB.out | apply below_alloc | apply pw_below_drewN | apply below_drew1 | refine below_set ?_ GE129.out) | exact HB.out))) : w.heap.size ≤ gb130)); have n5_ := Aside0.mk ((by rw [hg]; exact (below_size (by repeat (first | (with_reducible first | exact HB.out | apply below_alloc | apply pw_below_drewN | apply below_drew1 | refine below_set ?_ GE129.out) | exact HB.out))) : w.heap.size ≤ gb130)); have n6_ := Aside0.mk ((by rw [hg]; exact Nat.ne_of_lt (blk_lt (g := gb129) (o := .cells #[.int .i64 a0_0, .int .i64 a0_1, .string a0_2, .slice A0_3 l0_3.length c0_3, .slice A0_4 l0_4.length c0_4] 25 (0, 0)) (by (with_reducible repeat (first | refine blk_drewN ?_ _ | refine blk_drew ?_ | refine blk_alloc ?_ _)); exact BK129.out)) : gb129 ≠ gb130)); have n7_ := Aside0.mk ((by rw [hg]; exact Nat.ne_of_gt (blk_lt (g := gb129) (o := .cells #[.int .i64 a0_0, .int .i64 a0_1, .string a0_2, .slice A0_3 l0_3.length c0_3, .slice A0_4 l0_4.length c0_4] 25 (0, 0)) (by (with_reducible repeat (first | refine blk_drewN ?_ _ | refine blk_drew ?_ | refine blk_alloc ?_ _)); exact BK129.out)) : gb130 ≠ gb129)); clear HO0_4; clear BK129; clear HB; have HO0_4 := n0_; have BK129 := n1_; have HB := n2_; have BK130 := n3_; have GW130 := n4_; have GE130 := n5_; have NB129_130 := n6_; have NB130_129 := n7_; clear n0_ n1_ n2_ n3_ n4_ n5_ n6_ n7_; clear hb hbox hg; have hnb7 := NB129_130.out; have hnc7 := NB130_129.out; have hcz8_0 : w6.cell? ⟨gb129, 0, none⟩ = some (.int .i64 a0_0) := (blk_cell BK129.out 0).trans rfl; have hcz8_1 : w6.cell? ⟨gb129, 1, none⟩ = some (.int .i64 a0_1) := (blk_cell BK129.out 1).trans rfl; have hcz8_2 : w6.cell? ⟨gb129, 2, none⟩ = some (.string a0_2) := (blk_cell BK129.out 2).trans rfl; have hcz8_3 : w6.cell? ⟨gb129, 3, none⟩ = some (.slice A0_3 l0_3.length c0_3) := (blk_cell BK129.out 3).trans rfl; have hcz8_4 : w6.cell? ⟨gb129, 4, none⟩ = some (.slice A0_4 l0_4.length c0_4) := (blk_cell BK129.out 4).trans rfl; have hfz8_0 := blk_frozen BK129.out 0; have hfz8_1 := blk_frozen BK129.out 1; have hfz8_2 := blk_frozen BK129.out 2; have hfz8_3 := blk_frozen BK129.out 3; have hfz8_4 := blk_frozen BK129.out 4) | ((with_reducible refine gate_callee (f := 94) rfl ?_); refine goesL_ (some 12) rfl rfl Try.func94 (by kernel_rfl) rfl #[.agg #[.int .i64 a0_0, .int .i64 a0_1, .string a0_2, .slice A0_3 l0_3.length c0_3, .slice A0_4 l0_4.length c0_4]] rfl (by (try simp only [List.map_toArray, List.map_cons, List.map_nil]); first | done | rfl | (simp only [List.length_drop, List.length_take]; rfl)) ?_; (with_reducible refine (tree_entries.calls k a0_0 a0_1 a0_2 _ _ l0_3 (fun k_ => (((P0_4_ k_ ∨ w.heap.size ≤ k_) ∧ k_ ≠ gb129) ∧ k_ ≠ gb130)) _ _ l0_4 t131 _ ?side1 ?side2 ?side3 A4.out).mono ?_); (case side1 => repeat (first | exact (Kd.C_below HR0_3.out HB.out) | (with_reducible refine Kd.C_alloc ?_ _) | (with_reducible refine Kd.C_drewN ?_ _) | (with_reducible refine Kd.C_drew ?_))); (case side2 => exact HC0_3.out); (case side3 => exact HO0_4.out); rintro e w9 ⟨v132, rfl, ho0, hb⟩; refine ⟨_, rfl, ?_⟩; have n0_ := Aside0.mk (Kd.V_elder' (by (with_reducible repeat (first | apply Kd.V_alloc | apply Kd.V_drewN | apply Kd.V_drew)); exact HO0_4.out) (by first | exact Kd.N_base ho0 | exact Kd.N_base (Kd.R_N (Kd.R_bound ho0)) | exact Kd.N_base (Kd.R_N ho0)) hb); have n1_ := Aside0.mk (Kd.N_lower (Kd.N_mono (ok' := fun k_ => (P0_4_ k_ ∨ w.heap.size ≤ k_) ∧ k_ ≠ gb129 ∧ k_ ≠ gb130) ho0 (fun k_ hk_ => ⟨Or.elim hk_ (fun hs_ => hs_.1.1) (fun hn_ => (.inr (Nat.le_trans (below_size (by repeat (first | (with_reducible first | exact HB.out | apply below_alloc | apply pw_below_drewN | apply below_drew1 | refine below_set ?_ GE129.out | refine below_set ?_ GE130.out) | exact HB.out))) hn_))), Or.elim hk_ (fun hs_ => hs_.1.2) (fun hn_ => (Kd.freshB (g := gb129) (o := .cells #[.int .i64 a0_0, .int .i64 a0_1, .string a0_2, .slice A0_3 l0_3.length c0_3, .slice A0_4 l0_4.length c0_4] 25 (0, 0)) (by (with_reducible repeat (first | refine blk_drewN ?_ _ | refine blk_drew ?_ | refine blk_alloc ?_ _)); exact BK129.out) k_ hn_)), Or.elim hk_ (fun hs_ => hs_.2) (fun hn_ => (Kd.freshB (g := gb130) (o := .cells #[.int .i64 0, .int .i64 0, .string (⟨#[]⟩ : ByteArray), .slice none 0 0, .slice none 0 0] 25 (0, 0)) (by (with_reducible repeat (first | refine blk_drewN ?_ _ | refine blk_drew ?_ | refine blk_alloc ?_ _)); exact BK130.out) k_ hn_))⟩)) (below_size (by repeat (first | (with_reducible first | exact HB.out | apply below_alloc | apply pw_below_drewN | apply below_drew1 | refine below_set ?_ GE129.out | refine below_set ?_ GE130.out) | exact HB.out)))); have n2_ := Aside0.mk (blk_below (g := gb129) (o := .cells #[.int .i64 a0_0, .int .i64 a0_1, .string a0_2, .slice A0_3 l0_3.length c0_3, .slice A0_4 l0_4.length c0_4] 25 (0, 0)) (by (with_reducible repeat (first | refine blk_drewN ?_ _ | refine blk_drew ?_ | refine blk_alloc ?_ _)); exact BK129.out) hb); have n3_ := Aside0.mk (blk_below (g := gb130) (o := .cells #[.int .i64 0, .int .i64 0, .string (⟨#[]⟩ : ByteArray), .slice none 0 0, .slice none 0 0] 25 (0, 0)) (by (with_reducible repeat (first | refine blk_drewN ?_ _ | refine blk_drew ?_ | refine blk_alloc ?_ _)); exact BK130.out) hb); have n4_ := Aside0.mk (below_step (by repeat (first | (with_reducible first | exact HB.out | apply below_alloc | apply pw_below_drewN | apply below_drew1 | refine below_set ?_ GE129.out | refine below_set ?_ GE130.out) | exact HB.out)) hb); clear HO0_4; clear BK129; clear BK130; clear HB; have HO0_4 := n0_; have HO133 := n1_; have BK129 := n2_; have BK130 := n3_; have HB := n4_; clear n0_ n1_ n2_ n3_ n4_; (try clear hb); (try clear hb2); (try clear hk); (try clear hi); (try clear ho0); obtain ⟨Ao10, co10, eo10⟩ := Kd.N_slice HO133.out; subst eo10))
    go_loopg [14] k (fun kq v14 w' => ∃ (x14_1 : Int) (x131000_1 : Int) (x131001_1 : Int) (x131002_1 : ByteArray), v14 = .int .i64 x14_1 ∧ Aside0 (tree_Get.l0 kq a1 t131 (t131.length : Int) x14_1 = some (r1, r2, r3, r4, r5, r6)) ∧ Aside0 (kq ≤ k) ∧ Aside0 (Kd.N k119 119 w' w.heap.size (fun k_ => (P0_4_ k_ ∨ w.heap.size ≤ k_) ∧ k_ ≠ gb129 ∧ k_ ≠ gb130) (.slice Ao10 t131.length co10) t131) ∧ Aside0 (Kd.V k25 25 w' w.heap.size (fun k_ => (P0_4_ k_ ∨ w.heap.size ≤ k_) ∧ some k_ ≠ ((.slice Ao10 t131.length co10) : Value).ownBlock ∧ k_ ≠ gb129 ∧ k_ ≠ gb130) (.slice A0_4 l0_4.length c0_4) l0_4) ∧ Aside0 (w'.heap[gb129]? = some (.cells #[.int .i64 a0_0, .int .i64 a0_1, .string a0_2, (.slice A0_3 l0_3.length c0_3), (.slice A0_4 l0_4.length c0_4)] 25 (0, 0))) ∧ Aside0 (w'.heap[gb130]? = some (.cells #[.int .i64 x131000_1, .int .i64 x131001_1, .string x131002_1, (.slice none 0 0), (.slice none 0 0)] 25 (0, 0))) ∧ Aside0 (Below w.heap.size w w'))
    case atStart => exact ⟨(0), (0), (0), ((⟨#[]⟩ : ByteArray)), (by first | rfl | (simp; done) | (simp [*]; done)), (by first | with_reducible exact H' | exact H' | (subst_vars; exact H')), ⟨Nat.le_refl _⟩, ⟨by (with_reducible repeat (first | apply Kd.N_alloc | apply Kd.N_drewN | apply Kd.N_drew)); exact HO133.out⟩, ⟨by (with_reducible repeat (first | apply Kd.V_alloc | apply Kd.V_drewN | apply Kd.V_drew)); exact Kd.V_mono HO0_4.out (fun _ hk => ⟨hk.1.1.1, ⟨hk.2, ⟨hk.1.1.2, hk.1.2⟩⟩⟩)⟩, ⟨by (with_reducible repeat (first | refine blk_drewN ?_ _ | refine blk_drew ?_ | refine blk_alloc ?_ _)); exact BK129.out⟩, ⟨by (with_reducible repeat (first | refine blk_drewN ?_ _ | refine blk_drew ?_ | refine blk_alloc ?_ _)); exact BK130.out⟩, ⟨by repeat (first | (with_reducible first | exact HB.out | apply below_alloc | apply pw_below_drewN | apply below_drew1 | refine below_set ?_ GE129.out | refine below_set ?_ GE130.out) | exact HB.out)⟩⟩
    case round =>
      clear H'
      try clear p2
      try clear c3
      try clear c3b0
      try clear c3b1
      try clear c6
      try clear c7
      try clear c9
      try clear hcz8_0
      try clear hcz8_1
      try clear hcz8_2
      try clear hcz8_3
      try clear hcz8_4
      try clear hfz8_0
      try clear hfz8_1
      try clear hfz8_2
      try clear hfz8_3
      try clear hfz8_4
      obtain ⟨x14_1, x131000_1, x131001_1, x131002_1, rfl, HA, HK1, HO_12, HO_130004, BK129, BK130, HB⟩ := hrel
      cases gk with
      | zero => exact absurd HA.out (by simp [tree_Get.l0])
      | succ k1 =>
        have H := HA.out
        clear HA
        simp only [tree_Get.l0] at H
        by_cases c11 : x14_1 < (t131.length : Int)
        · rw [if_pos c11] at H
          have c11b0 : decide (x14_1 < (t131.length : Int)) = true := decide_eq_true c11
          clear c11
          by_cases c12 : 0 ≤ x14_1
          · rw [if_pos c12] at H
            have c12b0 : decide (0 ≤ x14_1) = true := decide_eq_true c12
            clear c12
            by_cases c13 : x14_1 < (t131.length : Int)
            · rw [if_pos c13] at H
              have c13b0 : decide (x14_1 < (t131.length : Int)) = true := decide_eq_true c13
              clear c13
              by_cases c14 : ((rd_T119 t131 x14_1).f0).toList = a1.toList
              · rw [if_pos c14] at H
                have c14b0 : (((rd_T119 t131 x14_1).f0).toList == a1.toList) = true := beq_iff_eq.mpr c14
                have c14b1 : (((rd_T119 t131 x14_1).f0).toList != a1.toList) = false := bne_eq_false_iff_eq.mpr c14
                clear c14
                simp only [Option.some.injEq, Prod.mk.injEq] at H
                obtain ⟨rfl, rfl, rfl, rfl, rfl, rfl⟩ := H
                have p134 : 0 ≤ (x14_1 : Int) := of_decide_eq_true (by first | (with_reducible assumption) | assumption)
                have q134 : x14_1 < (t131.length : Int) := of_decide_eq_true (by first | (with_reducible assumption) | assumption)
                obtain ⟨ad134, A134_4, c134_4, A134_5, c134_5, e134, hx134_0, hx134_1, hx134_2, hx134_3, hx134_4, hx134_5, hl134_4, hi134_4, hl134_5, hi134_5⟩ := at_T119 (Kd.N_reads' HO_12.out).2.2 x14_1 p134 q134
                cases e134
                obtain ⟨ce134, hce134, hMe134, hcc134⟩ := Kd.N_get HO_12.out z119 x14_1 p134 (by first | exact q134 | exact of_decide_eq_true (by first | (with_reducible assumption) | assumption) | (have e_ := (Kd.N_reads' HO_12.out).1; omega))
                obtain ⟨ua134_4, uc134_4, ua134_5, uc134_5, rfl, ul134_4, ge134_4, ul134_5, ge134_5⟩ := k119_openF hMe134
                have hv134_4 := hcc134 4 _ rfl
                rw [add_field _ _ 4 (by omega)] at hv134_4
                replace hv134_4 := Option.some.inj (hv134_4.symm.trans hx134_4)
                injection hv134_4 with hva_ hvn_ hvc_
                rw [hva_] at ge134_4
                rw [hvc_] at ul134_4
                have HL134_4 := Aside0.mk (show Kd.V Kd.string 9 _ w.heap.size _ _ ((rd_T119 t131 x14_1).f1.f3) from Kd.V_mk ul134_4 ge134_4)
                clear hva_ hvn_ hvc_ ge134_4 ul134_4
                have hv134_5 := hcc134 5 _ rfl
                rw [add_field _ _ 5 (by omega)] at hv134_5
                replace hv134_5 := Option.some.inj (hv134_5.symm.trans hx134_5)
                injection hv134_5 with hva_ hvn_ hvc_
                rw [hva_] at ge134_5
                rw [hvc_] at ul134_5
                have HL134_5 := Aside0.mk (show Kd.V k25 25 _ w.heap.size _ _ ((rd_T119 t131 x14_1).f1.f4) from Kd.V_mk ul134_5 ge134_5)
                clear hva_ hvn_ hvc_ ge134_5 ul134_5
                clear hcc134 hce134
                have HR134_4 := Aside0.mk hi134_4
                have HC134_4 := Aside0.mk hl134_4
                clear hi134_4 hl134_4
                have HR134_5 := Aside0.mk hi134_5
                have HC134_5 := Aside0.mk hl134_5
                clear hi134_5 hl134_5
                replace p134 := eq_true p134
                replace q134 := eq_true q134
                go_wp2_with (first | ((with_reducible refine gate_dst (N := 7) rfl ?_); refine box_event ?hg (N := 7) ?hd (cs := #[.string (⟨#[]⟩ : ByteArray), .int .i64 0, .int .i64 0, .string (⟨#[]⟩ : ByteArray), .slice none 0 0, .slice none 0 0]) (t := 119) ?hr ?_; (case hd => rfl); (case hg => rfl); (case hr => first | (go_simp; done) | (go_simp; rfl)); intro gb135 hg w15 hbox hb; have n0_ := Aside0.mk (Kd.N_below (Kd.N_elderB (by (with_reducible repeat (first | apply Kd.N_alloc | apply Kd.N_drewN | apply Kd.N_drew)); exact HO_12.out) gb135 (Nat.le_of_eq hg.symm)) hb); have n1_ := Aside0.mk (Kd.V_below (Kd.V_elderB (by (with_reducible repeat (first | apply Kd.V_alloc | apply Kd.V_drewN | apply Kd.V_drew)); exact HO_130004.out) gb135 (Nat.le_of_eq hg.symm)) hb); have n2_ := Aside0.mk (Kd.V_below (Kd.V_elderB (by (with_reducible repeat (first | apply Kd.V_alloc | apply Kd.V_drewN | apply Kd.V_drew)); exact HL134_4.out) gb135 (Nat.le_of_eq hg.symm)) hb); have n3_ := Aside0.mk (Kd.V_below (Kd.V_elderB (by (with_reducible repeat (first | apply Kd.V_alloc | apply Kd.V_drewN | apply Kd.V_drew)); exact HL134_5.out) gb135 (Nat.le_of_eq hg.symm)) hb); have n4_ := Aside0.mk (blk_below (g := gb129) (o := .cells #[.int .i64 a0_0, .int .i64 a0_1, .string a0_2, .slice A0_3 l0_3.length c0_3, .slice A0_4 l0_4.length c0_4] 25 (0, 0)) (by (with_reducible repeat (first | refine blk_drewN ?_ _ | refine blk_drew ?_ | refine blk_alloc ?_ _)); exact BK129.out) hb); have n5_ := Aside0.mk (blk_below (g := gb130) (o := .cells #[.int .i64 x131000_1, .int .i64 x131001_1, .string x131002_1, .slice none 0 0, .slice none 0 0] 25 (0, 0)) (by (with_reducible repeat (first | refine blk_drewN ?_ _ | refine blk_drew ?_ | refine blk_alloc ?_ _)); exact BK130.out) hb); have n6_ := Aside0.mk (Kd.C_below (by repeat (first | (with_reducible exact HR134_4.out) | (with_reducible refine Kd.C_alloc ?_ _) | (with_reducible refine Kd.C_drewN ?_ _) | (with_reducible refine Kd.C_drew ?_) | exact HR134_4.out)) hb); have n7_ := Aside0.mk (Kd.C_below (by repeat (first | (with_reducible exact HR134_5.out) | (with_reducible refine Kd.C_alloc ?_ _) | (with_reducible refine Kd.C_drewN ?_ _) | (with_reducible refine Kd.C_drew ?_) | exact HR134_5.out)) hb); have n8_ := Aside0.mk (below_step (by repeat (first | (with_reducible first | exact HB.out | apply below_alloc | apply pw_below_drewN | apply below_drew1 | refine below_set ?_ GE129.out | refine below_set ?_ GE130.out) | exact HB.out)) hb); have n9_ := Aside0.mk (hbox); have n10_ := Aside0.mk ((by rw [hg]; exact (below_size (by repeat (first | (with_reducible first | exact HB.out | apply below_alloc | apply pw_below_drewN | apply below_drew1 | refine below_set ?_ GE129.out | refine below_set ?_ GE130.out) | exact HB.out))) : w.heap.size ≤ gb135)); have n11_ := Aside0.mk ((by rw [hg]; exact (below_size (by repeat (first | (with_reducible first | exact HB.out | apply below_alloc | apply pw_below_drewN | apply below_drew1 | refine below_set ?_ GE129.out | refine below_set ?_ GE130.out) | exact HB.out))) : w.heap.size ≤ gb135)); have n12_ := Aside0.mk ((by rw [hg]; exact Nat.ne_of_lt (blk_lt (g := gb129) (o := .cells #[.int .i64 a0_0, .int .i64 a0_1, .string a0_2, .slice A0_3 l0_3.length c0_3, .slice A0_4 l0_4.length c0_4] 25 (0, 0)) (by (with_reducible repeat (first | refine blk_drewN ?_ _ | refine blk_drew ?_ | refine blk_alloc ?_ _)); exact BK129.out)) : gb129 ≠ gb135)); have n13_ := Aside0.mk ((by rw [hg]; exact Nat.ne_of_gt (blk_lt (g := gb129) (o := .cells #[.int .i64 a0_0, .int .i64 a0_1, .string a0_2, .slice A0_3 l0_3.length c0_3, .slice A0_4 l0_4.length c0_4] 25 (0, 0)) (by (with_reducible repeat (first | refine blk_drewN ?_ _ | refine blk_drew ?_ | refine blk_alloc ?_ _)); exact BK129.out)) : gb135 ≠ gb129)); have n14_ := Aside0.mk ((by rw [hg]; exact Nat.ne_of_lt (blk_lt (g := gb130) (o := .cells #[.int .i64 x131000_1, .int .i64 x131001_1, .string x131002_1, .slice none 0 0, .slice none 0 0] 25 (0, 0)) (by (with_reducible repeat (first | refine blk_drewN ?_ _ | refine blk_drew ?_ | refine blk_alloc ?_ _)); exact BK130.out)) : gb130 ≠ gb135)); have n15_ := Aside0.mk ((by rw [hg]; exact Nat.ne_of_gt (blk_lt (g := gb130) (o := .cells #[.int .i64 x131000_1, .int .i64 x131001_1, .string x131002_1, .slice none 0 0, .slice none 0 0] 25 (0, 0)) (by (with_reducible repeat (first | refine blk_drewN ?_ _ | refine blk_drew ?_ | refine blk_alloc ?_ _)); exact BK130.out)) : gb135 ≠ gb130)); clear HO_12; clear HO_130004; clear HL134_4; clear HL134_5; clear BK129; clear BK130; clear HR134_4; clear HR134_5; clear HB; have HO_12 := n0_; have HO_130004 := n1_; have HL134_4 := n2_; have HL134_5 := n3_; have BK129 := n4_; have BK130 := n5_; have HR134_4 := n6_; have HR134_5 := n7_; have HB := n8_; have BK135 := n9_; have GW135 := n10_; have GE135 := n11_; have NB129_135 := n12_; have NB135_129 := n13_; have NB130_135 := n14_; have NB135_130 := n15_; clear n0_ n1_ n2_ n3_ n4_ n5_ n6_ n7_ n8_ n9_ n10_ n11_ n12_ n13_ n14_ n15_; clear hb hbox hg; have hnb16 := NB135_129.out; have hnc16 := NB129_135.out; have hnb17 := NB135_130.out; have hnc17 := NB130_135.out; have hcz18_0 : w15.cell? ⟨gb135, 0, none⟩ = some (.string (⟨#[]⟩ : ByteArray)) := (blk_cell BK135.out 0).trans rfl; have hcz18_1 : w15.cell? ⟨gb135, 1, none⟩ = some (.int .i64 0) := (blk_cell BK135.out 1).trans rfl; have hcz18_2 : w15.cell? ⟨gb135, 2, none⟩ = some (.int .i64 0) := (blk_cell BK135.out 2).trans rfl; have hcz18_3 : w15.cell? ⟨gb135, 3, none⟩ = some (.string (⟨#[]⟩ : ByteArray)) := (blk_cell BK135.out 3).trans rfl; have hcz18_4 : w15.cell? ⟨gb135, 4, none⟩ = some (.slice none 0 0) := (blk_cell BK135.out 4).trans rfl; have hcz18_5 : w15.cell? ⟨gb135, 5, none⟩ = some (.slice none 0 0) := (blk_cell BK135.out 5).trans rfl; have hfz18_0 := blk_frozen BK135.out 0; have hfz18_1 := blk_frozen BK135.out 1; have hfz18_2 := blk_frozen BK135.out 2; have hfz18_3 := blk_frozen BK135.out 3; have hfz18_4 := blk_frozen BK135.out 4; have hfz18_5 := blk_frozen BK135.out 5; have hnb19 := NB130_129.out; have hnc19 := NB129_130.out; have hcz20_0 : w15.cell? ⟨gb130, 0, none⟩ = some (.int .i64 x131000_1) := (blk_cell BK130.out 0).trans rfl; have hcz20_1 : w15.cell? ⟨gb130, 1, none⟩ = some (.int .i64 x131001_1) := (blk_cell BK130.out 1).trans rfl; have hcz20_2 : w15.cell? ⟨gb130, 2, none⟩ = some (.string x131002_1) := (blk_cell BK130.out 2).trans rfl; have hcz20_3 : w15.cell? ⟨gb130, 3, none⟩ = some (.slice none 0 0) := (blk_cell BK130.out 3).trans rfl; have hcz20_4 : w15.cell? ⟨gb130, 4, none⟩ = some (.slice none 0 0) := (blk_cell BK130.out 4).trans rfl; have hfz20_0 := blk_frozen BK130.out 0; have hfz20_1 := blk_frozen BK130.out 1; have hfz20_2 := blk_frozen BK130.out 2; have hfz20_3 := blk_frozen BK130.out 3; have hfz20_4 := blk_frozen BK130.out 4))
                refine bodyPost_ret (results_ct rfl _ _ gb130 25 #[.int .i64 ((rd_T119 t131 x14_1).f1.f0), .int .i64 ((rd_T119 t131 x14_1).f1.f1), .string ((rd_T119 t131 x14_1).f1.f2), .slice A134_4 ((rd_T119 t131 x14_1).f1.f3).length c134_4, .slice A134_5 ((rd_T119 t131 x14_1).f1.f4).length c134_5] (0, 0) _ rfl (by (with_reducible repeat (first | refine blk_drewN ?_ _ | refine blk_drew ?_ | refine blk_alloc ?_ _)); refine blk_put (cs := #[.int .i64 ((rd_T119 t131 x14_1).f1.f0), .int .i64 ((rd_T119 t131 x14_1).f1.f1), .string ((rd_T119 t131 x14_1).f1.f2), .slice A134_4 ((rd_T119 t131 x14_1).f1.f3).length c134_4, .slice none 0 0]) ?_ 4 _ rfl; (with_reducible repeat (first | refine blk_drewN ?_ _ | refine blk_drew ?_ | refine blk_alloc ?_ _)); refine blk_put (cs := #[.int .i64 ((rd_T119 t131 x14_1).f1.f0), .int .i64 ((rd_T119 t131 x14_1).f1.f1), .string ((rd_T119 t131 x14_1).f1.f2), .slice none 0 0, .slice none 0 0]) ?_ 3 _ rfl; (with_reducible repeat (first | refine blk_drewN ?_ _ | refine blk_drew ?_ | refine blk_alloc ?_ _)); refine blk_put (cs := #[.int .i64 ((rd_T119 t131 x14_1).f1.f0), .int .i64 ((rd_T119 t131 x14_1).f1.f1), .string x131002_1, .slice none 0 0, .slice none 0 0]) ?_ 2 _ rfl; (with_reducible repeat (first | refine blk_drewN ?_ _ | refine blk_drew ?_ | refine blk_alloc ?_ _)); refine blk_put (cs := #[.int .i64 ((rd_T119 t131 x14_1).f1.f0), .int .i64 x131001_1, .string x131002_1, .slice none 0 0, .slice none 0 0]) ?_ 1 _ rfl; (with_reducible repeat (first | refine blk_drewN ?_ _ | refine blk_drew ?_ | refine blk_alloc ?_ _)); refine blk_put (cs := #[.int .i64 x131000_1, .int .i64 x131001_1, .string x131002_1, .slice none 0 0, .slice none 0 0]) ?_ 0 _ rfl; (with_reducible repeat (first | refine blk_drewN ?_ _ | refine blk_drew ?_ | refine blk_alloc ?_ _)); refine blk_far ?_ NB130_135.out _; (with_reducible repeat (first | refine blk_drewN ?_ _ | refine blk_drew ?_ | refine blk_alloc ?_ _)); refine blk_far ?_ NB130_135.out _; (with_reducible repeat (first | refine blk_drewN ?_ _ | refine blk_drew ?_ | refine blk_alloc ?_ _)); refine blk_far ?_ NB130_135.out _; (with_reducible repeat (first | refine blk_drewN ?_ _ | refine blk_drew ?_ | refine blk_alloc ?_ _)); refine blk_far ?_ NB130_135.out _; (with_reducible repeat (first | refine blk_drewN ?_ _ | refine blk_drew ?_ | refine blk_alloc ?_ _)); refine blk_far ?_ NB130_135.out _; (with_reducible repeat (first | refine blk_drewN ?_ _ | refine blk_drew ?_ | refine blk_alloc ?_ _)); refine blk_far ?_ NB130_135.out _; (with_reducible repeat (first | refine blk_drewN ?_ _ | refine blk_drew ?_ | refine blk_alloc ?_ _)); exact BK130.out) Try.underlying25 rfl (by kernel_rfl)) rfl ?_
                exact ⟨_, _, by first | rfl | (simp [errW_none, errW_some] <;> rfl) | (simp [*, errW_none, errW_some] <;> rfl), by (with_reducible repeat (first | apply Kd.V_alloc | apply Kd.V_drewN | apply Kd.V_drew)); exact Kd.V_mono (Kd.V_far (p := ⟨gb130, 4, none⟩) (Kd.V_far (p := ⟨gb130, 3, none⟩) (Kd.V_far (p := ⟨gb130, 2, none⟩) (Kd.V_far (p := ⟨gb130, 1, none⟩) (Kd.V_far (p := ⟨gb130, 0, none⟩) (Kd.V_far (p := ⟨gb135, 5, none⟩) (Kd.V_far (p := ⟨gb135, 4, none⟩) (Kd.V_far (p := ⟨gb135, 3, none⟩) (Kd.V_far (p := ⟨gb135, 2, none⟩) (Kd.V_far (p := ⟨gb135, 1, none⟩) (Kd.V_far (p := ⟨gb135, 0, none⟩) (Kd.V_mono (Kd.V_mono HL134_4.out (fun k_ hk => (⟨hk, hk.2⟩ : _ ∧ k_ ≠ gb135))) (fun k_ hk => (⟨hk, hk.1.1.1.2.2⟩ : _ ∧ k_ ≠ gb130))) (fun _ hk => hk.1.2) (.string ((rd_T119 t131 x14_1).f0))) (fun _ hk => hk.1.2) (.int .i64 ((rd_T119 t131 x14_1).f1.f0))) (fun _ hk => hk.1.2) (.int .i64 ((rd_T119 t131 x14_1).f1.f1))) (fun _ hk => hk.1.2) (.string ((rd_T119 t131 x14_1).f1.f2))) (fun _ hk => hk.1.2) (.slice A134_4 ((rd_T119 t131 x14_1).f1.f3).length c134_4)) (fun _ hk => hk.1.2) (.slice A134_5 ((rd_T119 t131 x14_1).f1.f4).length c134_5)) (fun _ hk => hk.2) (.int .i64 ((rd_T119 t131 x14_1).f1.f0))) (fun _ hk => hk.2) (.int .i64 ((rd_T119 t131 x14_1).f1.f1))) (fun _ hk => hk.2) (.string ((rd_T119 t131 x14_1).f1.f2))) (fun _ hk => hk.2) (.slice A134_4 ((rd_T119 t131 x14_1).f1.f3).length c134_4)) (fun _ hk => hk.2) (.slice A134_5 ((rd_T119 t131 x14_1).f1.f4).length c134_5)) (fun _ hk => hk.1.1.1.1.1), by (with_reducible repeat (first | apply Kd.V_alloc | apply Kd.V_drewN | apply Kd.V_drew)); exact Kd.V_mono (Kd.V_far (p := ⟨gb130, 4, none⟩) (Kd.V_far (p := ⟨gb130, 3, none⟩) (Kd.V_far (p := ⟨gb130, 2, none⟩) (Kd.V_far (p := ⟨gb130, 1, none⟩) (Kd.V_far (p := ⟨gb130, 0, none⟩) (Kd.V_far (p := ⟨gb135, 5, none⟩) (Kd.V_far (p := ⟨gb135, 4, none⟩) (Kd.V_far (p := ⟨gb135, 3, none⟩) (Kd.V_far (p := ⟨gb135, 2, none⟩) (Kd.V_far (p := ⟨gb135, 1, none⟩) (Kd.V_far (p := ⟨gb135, 0, none⟩) (Kd.V_mono (Kd.V_mono HL134_5.out (fun k_ hk => (⟨hk, hk.2⟩ : _ ∧ k_ ≠ gb135))) (fun k_ hk => (⟨hk, hk.1.1.1.2.2⟩ : _ ∧ k_ ≠ gb130))) (fun _ hk => hk.1.2) (.string ((rd_T119 t131 x14_1).f0))) (fun _ hk => hk.1.2) (.int .i64 ((rd_T119 t131 x14_1).f1.f0))) (fun _ hk => hk.1.2) (.int .i64 ((rd_T119 t131 x14_1).f1.f1))) (fun _ hk => hk.1.2) (.string ((rd_T119 t131 x14_1).f1.f2))) (fun _ hk => hk.1.2) (.slice A134_4 ((rd_T119 t131 x14_1).f1.f3).length c134_4)) (fun _ hk => hk.1.2) (.slice A134_5 ((rd_T119 t131 x14_1).f1.f4).length c134_5)) (fun _ hk => hk.2) (.int .i64 ((rd_T119 t131 x14_1).f1.f0))) (fun _ hk => hk.2) (.int .i64 ((rd_T119 t131 x14_1).f1.f1))) (fun _ hk => hk.2) (.string ((rd_T119 t131 x14_1).f1.f2))) (fun _ hk => hk.2) (.slice A134_4 ((rd_T119 t131 x14_1).f1.f3).length c134_4)) (fun _ hk => hk.2) (.slice A134_5 ((rd_T119 t131 x14_1).f1.f4).length c134_5)) (fun _ hk => hk.1.1.1.1.1), by repeat (first | (with_reducible first | exact HB.out | apply below_alloc | apply pw_below_drewN | apply below_drew1 | refine below_set ?_ GE129.out | refine below_set ?_ GE130.out | refine below_set ?_ GE135.out) | exact HB.out)⟩
              · rw [if_neg c14] at H
                have c14b0 : (((rd_T119 t131 x14_1).f0).toList == a1.toList) = false := beq_eq_false_iff_ne.mpr c14
                have c14b1 : (((rd_T119 t131 x14_1).f0).toList != a1.toList) = true := bne_iff_ne.mpr c14
                have H' := Aside0.mk H
                clear H
                have p134 : 0 ≤ (x14_1 : Int) := of_decide_eq_true (by first | (with_reducible assumption) | assumption)
                have q134 : x14_1 < (t131.length : Int) := of_decide_eq_true (by first | (with_reducible assumption) | assumption)
                obtain ⟨ad134, A134_4, c134_4, A134_5, c134_5, e134, hx134_0, hx134_1, hx134_2, hx134_3, hx134_4, hx134_5, hl134_4, hi134_4, hl134_5, hi134_5⟩ := at_T119 (Kd.N_reads' HO_12.out).2.2 x14_1 p134 q134
                cases e134
                obtain ⟨ce134, hce134, hMe134, hcc134⟩ := Kd.N_get HO_12.out z119 x14_1 p134 (by first | exact q134 | exact of_decide_eq_true (by first | (with_reducible assumption) | assumption) | (have e_ := (Kd.N_reads' HO_12.out).1; omega))
                obtain ⟨ua134_4, uc134_4, ua134_5, uc134_5, rfl, ul134_4, ge134_4, ul134_5, ge134_5⟩ := k119_openF hMe134
                have hv134_4 := hcc134 4 _ rfl
                rw [add_field _ _ 4 (by omega)] at hv134_4
                replace hv134_4 := Option.some.inj (hv134_4.symm.trans hx134_4)
                injection hv134_4 with hva_ hvn_ hvc_
                rw [hva_] at ge134_4
                rw [hvc_] at ul134_4
                have HL134_4 := Aside0.mk (show Kd.V Kd.string 9 _ w.heap.size _ _ ((rd_T119 t131 x14_1).f1.f3) from Kd.V_mk ul134_4 ge134_4)
                clear hva_ hvn_ hvc_ ge134_4 ul134_4
                have hv134_5 := hcc134 5 _ rfl
                rw [add_field _ _ 5 (by omega)] at hv134_5
                replace hv134_5 := Option.some.inj (hv134_5.symm.trans hx134_5)
                injection hv134_5 with hva_ hvn_ hvc_
                rw [hva_] at ge134_5
                rw [hvc_] at ul134_5
                have HL134_5 := Aside0.mk (show Kd.V k25 25 _ w.heap.size _ _ ((rd_T119 t131 x14_1).f1.f4) from Kd.V_mk ul134_5 ge134_5)
                clear hva_ hvn_ hvc_ ge134_5 ul134_5
                clear hcc134 hce134
                have HR134_4 := Aside0.mk hi134_4
                have HC134_4 := Aside0.mk hl134_4
                clear hi134_4 hl134_4
                have HR134_5 := Aside0.mk hi134_5
                have HC134_5 := Aside0.mk hl134_5
                clear hi134_5 hl134_5
                replace p134 := eq_true p134
                replace q134 := eq_true q134
                go_wp2_with (first | ((with_reducible refine gate_dst (N := 7) rfl ?_); refine box_event ?hg (N := 7) ?hd (cs := #[.string (⟨#[]⟩ : ByteArray), .int .i64 0, .int .i64 0, .string (⟨#[]⟩ : ByteArray), .slice none 0 0, .slice none 0 0]) (t := 119) ?hr ?_; (case hd => rfl); (case hg => rfl); (case hr => first | (go_simp; done) | (go_simp; rfl)); intro gb135 hg w21 hbox hb; have n0_ := Aside0.mk (Kd.N_below (Kd.N_elderB (by (with_reducible repeat (first | apply Kd.N_alloc | apply Kd.N_drewN | apply Kd.N_drew)); exact HO_12.out) gb135 (Nat.le_of_eq hg.symm)) hb); have n1_ := Aside0.mk (Kd.V_below (Kd.V_elderB (by (with_reducible repeat (first | apply Kd.V_alloc | apply Kd.V_drewN | apply Kd.V_drew)); exact HO_130004.out) gb135 (Nat.le_of_eq hg.symm)) hb); have n2_ := Aside0.mk (Kd.V_below (Kd.V_elderB (by (with_reducible repeat (first | apply Kd.V_alloc | apply Kd.V_drewN | apply Kd.V_drew)); exact HL134_4.out) gb135 (Nat.le_of_eq hg.symm)) hb); have n3_ := Aside0.mk (Kd.V_below (Kd.V_elderB (by (with_reducible repeat (first | apply Kd.V_alloc | apply Kd.V_drewN | apply Kd.V_drew)); exact HL134_5.out) gb135 (Nat.le_of_eq hg.symm)) hb); have n4_ := Aside0.mk (blk_below (g := gb129) (o := .cells #[.int .i64 a0_0, .int .i64 a0_1, .string a0_2, .slice A0_3 l0_3.length c0_3, .slice A0_4 l0_4.length c0_4] 25 (0, 0)) (by (with_reducible repeat (first | refine blk_drewN ?_ _ | refine blk_drew ?_ | refine blk_alloc ?_ _)); exact BK129.out) hb); have n5_ := Aside0.mk (blk_below (g := gb130) (o := .cells #[.int .i64 x131000_1, .int .i64 x131001_1, .string x131002_1, .slice none 0 0, .slice none 0 0] 25 (0, 0)) (by (with_reducible repeat (first | refine blk_drewN ?_ _ | refine blk_drew ?_ | refine blk_alloc ?_ _)); exact BK130.out) hb); have n6_ := Aside0.mk (Kd.C_below (by repeat (first | (with_reducible exact HR134_4.out) | (with_reducible refine Kd.C_alloc ?_ _) | (with_reducible refine Kd.C_drewN ?_ _) | (with_reducible refine Kd.C_drew ?_) | exact HR134_4.out)) hb); have n7_ := Aside0.mk (Kd.C_below (by repeat (first | (with_reducible exact HR134_5.out) | (with_reducible refine Kd.C_alloc ?_ _) | (with_reducible refine Kd.C_drewN ?_ _) | (with_reducible refine Kd.C_drew ?_) | exact HR134_5.out)) hb); have n8_ := Aside0.mk (below_step (by repeat (first | (with_reducible first | exact HB.out | apply below_alloc | apply pw_below_drewN | apply below_drew1 | refine below_set ?_ GE129.out | refine below_set ?_ GE130.out) | exact HB.out)) hb); have n9_ := Aside0.mk (hbox); have n10_ := Aside0.mk ((by rw [hg]; exact (below_size (by repeat (first | (with_reducible first | exact HB.out | apply below_alloc | apply pw_below_drewN | apply below_drew1 | refine below_set ?_ GE129.out | refine below_set ?_ GE130.out) | exact HB.out))) : w.heap.size ≤ gb135)); have n11_ := Aside0.mk ((by rw [hg]; exact (below_size (by repeat (first | (with_reducible first | exact HB.out | apply below_alloc | apply pw_below_drewN | apply below_drew1 | refine below_set ?_ GE129.out | refine below_set ?_ GE130.out) | exact HB.out))) : w.heap.size ≤ gb135)); have n12_ := Aside0.mk ((by rw [hg]; exact Nat.ne_of_lt (blk_lt (g := gb129) (o := .cells #[.int .i64 a0_0, .int .i64 a0_1, .string a0_2, .slice A0_3 l0_3.length c0_3, .slice A0_4 l0_4.length c0_4] 25 (0, 0)) (by (with_reducible repeat (first | refine blk_drewN ?_ _ | refine blk_drew ?_ | refine blk_alloc ?_ _)); exact BK129.out)) : gb129 ≠ gb135)); have n13_ := Aside0.mk ((by rw [hg]; exact Nat.ne_of_gt (blk_lt (g := gb129) (o := .cells #[.int .i64 a0_0, .int .i64 a0_1, .string a0_2, .slice A0_3 l0_3.length c0_3, .slice A0_4 l0_4.length c0_4] 25 (0, 0)) (by (with_reducible repeat (first | refine blk_drewN ?_ _ | refine blk_drew ?_ | refine blk_alloc ?_ _)); exact BK129.out)) : gb135 ≠ gb129)); have n14_ := Aside0.mk ((by rw [hg]; exact Nat.ne_of_lt (blk_lt (g := gb130) (o := .cells #[.int .i64 x131000_1, .int .i64 x131001_1, .string x131002_1, .slice none 0 0, .slice none 0 0] 25 (0, 0)) (by (with_reducible repeat (first | refine blk_drewN ?_ _ | refine blk_drew ?_ | refine blk_alloc ?_ _)); exact BK130.out)) : gb130 ≠ gb135)); have n15_ := Aside0.mk ((by rw [hg]; exact Nat.ne_of_gt (blk_lt (g := gb130) (o := .cells #[.int .i64 x131000_1, .int .i64 x131001_1, .string x131002_1, .slice none 0 0, .slice none 0 0] 25 (0, 0)) (by (with_reducible repeat (first | refine blk_drewN ?_ _ | refine blk_drew ?_ | refine blk_alloc ?_ _)); exact BK130.out)) : gb135 ≠ gb130)); clear HO_12; clear HO_130004; clear HL134_4; clear HL134_5; clear BK129; clear BK130; clear HR134_4; clear HR134_5; clear HB; have HO_12 := n0_; have HO_130004 := n1_; have HL134_4 := n2_; have HL134_5 := n3_; have BK129 := n4_; have BK130 := n5_; have HR134_4 := n6_; have HR134_5 := n7_; have HB := n8_; have BK135 := n9_; have GW135 := n10_; have GE135 := n11_; have NB129_135 := n12_; have NB135_129 := n13_; have NB130_135 := n14_; have NB135_130 := n15_; clear n0_ n1_ n2_ n3_ n4_ n5_ n6_ n7_ n8_ n9_ n10_ n11_ n12_ n13_ n14_ n15_; clear hb hbox hg; have hnb22 := NB135_129.out; have hnc22 := NB129_135.out; have hnb23 := NB135_130.out; have hnc23 := NB130_135.out; have hcz24_0 : w21.cell? ⟨gb135, 0, none⟩ = some (.string (⟨#[]⟩ : ByteArray)) := (blk_cell BK135.out 0).trans rfl; have hcz24_1 : w21.cell? ⟨gb135, 1, none⟩ = some (.int .i64 0) := (blk_cell BK135.out 1).trans rfl; have hcz24_2 : w21.cell? ⟨gb135, 2, none⟩ = some (.int .i64 0) := (blk_cell BK135.out 2).trans rfl; have hcz24_3 : w21.cell? ⟨gb135, 3, none⟩ = some (.string (⟨#[]⟩ : ByteArray)) := (blk_cell BK135.out 3).trans rfl; have hcz24_4 : w21.cell? ⟨gb135, 4, none⟩ = some (.slice none 0 0) := (blk_cell BK135.out 4).trans rfl; have hcz24_5 : w21.cell? ⟨gb135, 5, none⟩ = some (.slice none 0 0) := (blk_cell BK135.out 5).trans rfl; have hfz24_0 := blk_frozen BK135.out 0; have hfz24_1 := blk_frozen BK135.out 1; have hfz24_2 := blk_frozen BK135.out 2; have hfz24_3 := blk_frozen BK135.out 3; have hfz24_4 := blk_frozen BK135.out 4; have hfz24_5 := blk_frozen BK135.out 5))
                go_roundg k1
                case measure => have := HK1.out; omega
                case rel => exact ⟨(wrap64 (x14_1 + 1)), (x131000_1), (x131001_1), (x131002_1), (by first | rfl | (simp; done) | (simp [*]; done)), (by first | with_reducible exact H' | exact H' | (subst_vars; exact H')), ⟨by have := HK1.out; omega⟩, ⟨by (with_reducible repeat (first | apply Kd.N_alloc | apply Kd.N_drewN | apply Kd.N_drew)); exact Kd.N_mono (Kd.N_far (p := ⟨gb135, 5, none⟩) (Kd.N_far (p := ⟨gb135, 4, none⟩) (Kd.N_far (p := ⟨gb135, 3, none⟩) (Kd.N_far (p := ⟨gb135, 2, none⟩) (Kd.N_far (p := ⟨gb135, 1, none⟩) (Kd.N_far (p := ⟨gb135, 0, none⟩) (Kd.N_mono HO_12.out (fun k_ hk => (⟨hk, hk.2⟩ : _ ∧ k_ ≠ gb135))) (fun _ hk => hk.2) (.string ((rd_T119 t131 x14_1).f0))) (fun _ hk => hk.2) (.int .i64 ((rd_T119 t131 x14_1).f1.f0))) (fun _ hk => hk.2) (.int .i64 ((rd_T119 t131 x14_1).f1.f1))) (fun _ hk => hk.2) (.string ((rd_T119 t131 x14_1).f1.f2))) (fun _ hk => hk.2) (.slice A134_4 ((rd_T119 t131 x14_1).f1.f3).length c134_4)) (fun _ hk => hk.2) (.slice A134_5 ((rd_T119 t131 x14_1).f1.f4).length c134_5)) (fun _ hk => ⟨hk.1.1.1, ⟨hk.1.1.2.1, hk.1.1.2.2⟩⟩)⟩, ⟨by (with_reducible repeat (first | apply Kd.V_alloc | apply Kd.V_drewN | apply Kd.V_drew)); exact Kd.V_mono (Kd.V_far (p := ⟨gb135, 5, none⟩) (Kd.V_far (p := ⟨gb135, 4, none⟩) (Kd.V_far (p := ⟨gb135, 3, none⟩) (Kd.V_far (p := ⟨gb135, 2, none⟩) (Kd.V_far (p := ⟨gb135, 1, none⟩) (Kd.V_far (p := ⟨gb135, 0, none⟩) (Kd.V_mono HO_130004.out (fun k_ hk => (⟨hk, hk.2⟩ : _ ∧ k_ ≠ gb135))) (fun _ hk => hk.2) (.string ((rd_T119 t131 x14_1).f0))) (fun _ hk => hk.2) (.int .i64 ((rd_T119 t131 x14_1).f1.f0))) (fun _ hk => hk.2) (.int .i64 ((rd_T119 t131 x14_1).f1.f1))) (fun _ hk => hk.2) (.string ((rd_T119 t131 x14_1).f1.f2))) (fun _ hk => hk.2) (.slice A134_4 ((rd_T119 t131 x14_1).f1.f3).length c134_4)) (fun _ hk => hk.2) (.slice A134_5 ((rd_T119 t131 x14_1).f1.f4).length c134_5)) (fun _ hk => ⟨hk.1.1.1, ⟨hk.1.1.2.1, ⟨hk.1.1.2.2.1, hk.1.1.2.2.2⟩⟩⟩)⟩, ⟨by (with_reducible repeat (first | refine blk_drewN ?_ _ | refine blk_drew ?_ | refine blk_alloc ?_ _)); refine blk_far ?_ NB129_135.out _; (with_reducible repeat (first | refine blk_drewN ?_ _ | refine blk_drew ?_ | refine blk_alloc ?_ _)); refine blk_far ?_ NB129_135.out _; (with_reducible repeat (first | refine blk_drewN ?_ _ | refine blk_drew ?_ | refine blk_alloc ?_ _)); refine blk_far ?_ NB129_135.out _; (with_reducible repeat (first | refine blk_drewN ?_ _ | refine blk_drew ?_ | refine blk_alloc ?_ _)); refine blk_far ?_ NB129_135.out _; (with_reducible repeat (first | refine blk_drewN ?_ _ | refine blk_drew ?_ | refine blk_alloc ?_ _)); refine blk_far ?_ NB129_135.out _; (with_reducible repeat (first | refine blk_drewN ?_ _ | refine blk_drew ?_ | refine blk_alloc ?_ _)); refine blk_far ?_ NB129_135.out _; (with_reducible repeat (first | refine blk_drewN ?_ _ | refine blk_drew ?_ | refine blk_alloc ?_ _)); exact BK129.out⟩, ⟨by (with_reducible repeat (first | refine blk_drewN ?_ _ | refine blk_drew ?_ | refine blk_alloc ?_ _)); refine blk_far ?_ NB130_135.out _; (with_reducible repeat (first | refine blk_drewN ?_ _ | refine blk_drew ?_ | refine blk_alloc ?_ _)); refine blk_far ?_ NB130_135.out _; (with_reducible repeat (first | refine blk_drewN ?_ _ | refine blk_drew ?_ | refine blk_alloc ?_ _)); refine blk_far ?_ NB130_135.out _; (with_reducible repeat (first | refine blk_drewN ?_ _ | refine blk_drew ?_ | refine blk_alloc ?_ _)); refine blk_far ?_ NB130_135.out _; (with_reducible repeat (first | refine blk_drewN ?_ _ | refine blk_drew ?_ | refine blk_alloc ?_ _)); refine blk_far ?_ NB130_135.out _; (with_reducible repeat (first | refine blk_drewN ?_ _ | refine blk_drew ?_ | refine blk_alloc ?_ _)); refine blk_far ?_ NB130_135.out _; (with_reducible repeat (first | refine blk_drewN ?_ _ | refine blk_drew ?_ | refine blk_alloc ?_ _)); exact BK130.out⟩, ⟨by repeat (first | (with_reducible first | exact HB.out | apply below_alloc | apply pw_below_drewN | apply below_drew1 | refine below_set ?_ GE129.out | refine below_set ?_ GE130.out | refine below_set ?_ GE135.out) | exact HB.out)⟩⟩
            · rw [if_neg c13] at H
              exact absurd H (by simp)
          · rw [if_neg c12] at H
            exact absurd H (by simp)
        · rw [if_neg c11] at H
          have c11b0 : decide (x14_1 < (t131.length : Int)) = false := decide_eq_false c11
          clear c11
          simp only [Option.some.injEq, Prod.mk.injEq] at H
          obtain ⟨rfl, rfl, rfl, rfl, rfl, rfl⟩ := H
          have hnb25 := NB130_129.out
          have hnc25 := NB129_130.out
          have hcz26_0 : wr.cell? ⟨gb130, 0, none⟩ = some (.int .i64 x131000_1) := (blk_cell BK130.out 0).trans rfl
          have hcz26_1 : wr.cell? ⟨gb130, 1, none⟩ = some (.int .i64 x131001_1) := (blk_cell BK130.out 1).trans rfl
          have hcz26_2 : wr.cell? ⟨gb130, 2, none⟩ = some (.string x131002_1) := (blk_cell BK130.out 2).trans rfl
          have hcz26_3 : wr.cell? ⟨gb130, 3, none⟩ = some (.slice none 0 0) := (blk_cell BK130.out 3).trans rfl
          have hcz26_4 : wr.cell? ⟨gb130, 4, none⟩ = some (.slice none 0 0) := (blk_cell BK130.out 4).trans rfl
          have hfz26_0 := blk_frozen BK130.out 0
          have hfz26_1 := blk_frozen BK130.out 1
          have hfz26_2 := blk_frozen BK130.out 2
          have hfz26_3 := blk_frozen BK130.out 3
          have hfz26_4 := blk_frozen BK130.out 4
          go_wp2
          refine bodyPost_ret (results_ct rfl _ _ gb130 25 #[.int .i64 0, .int .i64 0, .string (⟨#[]⟩ : ByteArray), .slice none 0 0, .slice none 0 0] (0, 0) _ rfl (by (with_reducible repeat (first | refine blk_drewN ?_ _ | refine blk_drew ?_ | refine blk_alloc ?_ _)); refine blk_put (cs := #[.int .i64 0, .int .i64 0, .string (⟨#[]⟩ : ByteArray), .slice none 0 0, .slice none 0 0]) ?_ 4 _ rfl; (with_reducible repeat (first | refine blk_drewN ?_ _ | refine blk_drew ?_ | refine blk_alloc ?_ _)); refine blk_put (cs := #[.int .i64 0, .int .i64 0, .string (⟨#[]⟩ : ByteArray), .slice none 0 0, .slice none 0 0]) ?_ 3 _ rfl; (with_reducible repeat (first | refine blk_drewN ?_ _ | refine blk_drew ?_ | refine blk_alloc ?_ _)); refine blk_put (cs := #[.int .i64 0, .int .i64 0, .string x131002_1, .slice none 0 0, .slice none 0 0]) ?_ 2 _ rfl; (with_reducible repeat (first | refine blk_drewN ?_ _ | refine blk_drew ?_ | refine blk_alloc ?_ _)); refine blk_put (cs := #[.int .i64 0, .int .i64 x131001_1, .string x131002_1, .slice none 0 0, .slice none 0 0]) ?_ 1 _ rfl; (with_reducible repeat (first | refine blk_drewN ?_ _ | refine blk_drew ?_ | refine blk_alloc ?_ _)); refine blk_put (cs := #[.int .i64 x131000_1, .int .i64 x131001_1, .string x131002_1, .slice none 0 0, .slice none 0 0]) ?_ 0 _ rfl; (with_reducible repeat (first | refine blk_drewN ?_ _ | refine blk_drew ?_ | refine blk_alloc ?_ _)); exact BK130.out) Try.underlying25 rfl (by kernel_rfl)) rfl ?_
          exact ⟨_, _, by first | rfl | (simp [errW_none, errW_some] <;> rfl) | (simp [*, errW_none, errW_some] <;> rfl), (by exact Kd.V_nil _ _ _ _ _), (by exact Kd.V_nil _ _ _ _ _), by repeat (first | (with_reducible first | exact HB.out | apply below_alloc | apply pw_below_drewN | apply below_drew1 | refine below_set ?_ GE129.out | refine below_set ?_ GE130.out) | exact HB.out)⟩
  · rw [if_neg c3] at H
    have c3b0 : (a0_0 == 6) = false := beq_eq_false_iff_ne.mpr c3
    have c3b1 : (a0_0 != 6) = true := bne_iff_ne.mpr c3
    simp only [Option.some.injEq, Prod.mk.injEq] at H
    obtain ⟨rfl, rfl, rfl, rfl, rfl, rfl⟩ := H
    go_enter Try.func61, Try.ntmps61
    go_wp2_with (first | ((with_reducible refine gate_dst (N := 2) rfl ?_); refine box_event ?hg (N := 2) ?hd (cs := #[.int .i64 a0_0, .int .i64 a0_1, .string a0_2, .slice A0_3 l0_3.length c0_3, .slice A0_4 l0_4.length c0_4]) (t := 25) ?hr ?_; (case hd => rfl); (case hg => rfl); (case hr => first | (go_simp; done) | (go_simp; rfl)); intro gb129 hg w27 hbox hb; have n0_ := Aside0.mk (Kd.V_below (Kd.V_elderB (by (with_reducible repeat (first | apply Kd.V_alloc | apply Kd.V_drewN | apply Kd.V_drew)); exact HO0_4.out) gb129 (Nat.le_of_eq hg.symm)) hb); have n1_ := Aside0.mk (below_step (by repeat (first | (with_reducible first | exact HB.out | apply below_alloc | apply pw_below_drewN | apply below_drew1) | exact HB.out)) hb); have n2_ := Aside0.mk (hbox); have n3_ := Aside0.mk ((by rw [hg]; exact (below_size (by repeat (first | (with_reducible first | exact HB.out | apply below_alloc | apply pw_below_drewN | apply below_drew1) | exact HB.out))) : w.heap.size ≤ gb129)); have n4_ := Aside0.mk ((by rw [hg]; exact (below_size (by repeat (first | (with_reducible first | exact HB.out | apply below_alloc | apply pw_below_drewN | apply below_drew1) | exact HB.out))) : w.heap.size ≤ gb129)); clear HO0_4; clear HB; have HO0_4 := n0_; have HB := n1_; have BK129 := n2_; have GW129 := n3_; have GE129 := n4_; clear n0_ n1_ n2_ n3_ n4_; clear hb hbox hg) | ((with_reducible refine gate_dst (N := 4) rfl ?_); refine box_event ?hg (N := 4) ?hd (cs := #[.int .i64 0, .int .i64 0, .string (⟨#[]⟩ : ByteArray), .slice none 0 0, .slice none 0 0]) (t := 25) ?hr ?_; (case hd => rfl); (case hg => rfl); (case hr => first | (go_simp; done) | (go_simp; rfl)); intro gb130 hg w28 hbox hb; have n0_ := Aside0.mk (Kd.V_below (Kd.V_elderB (by (with_reducible repeat (first | apply Kd.V_alloc | apply Kd.V_drewN | apply Kd.V_drew)); exact HO0_4.out) gb130 (Nat.le_of_eq hg.symm)) hb); have n1_ := Aside0.mk (blk_below (g := gb129) (o := .cells #[.int .i64 a0_0, .int .i64 a0_1, .string a0_2, .slice A0_3 l0_3.length c0_3, .slice A0_4 l0_4.length c0_4] 25 (0, 0)) (by (with_reducible repeat (first | refine blk_drewN ?_ _ | refine blk_drew ?_ | refine blk_alloc ?_ _)); exact BK129.out) hb); have n2_ := Aside0.mk (below_step (by repeat (first | (with_reducible first | exact HB.out | apply below_alloc | apply pw_below_drewN | apply below_drew1 | refine below_set ?_ GE129.out) | exact HB.out)) hb); have n3_ := Aside0.mk (hbox); have n4_ := Aside0.mk ((by rw [hg]; exact (below_size (by repeat (first | (with_reducible first | exact HB.out | apply below_alloc | apply pw_below_drewN | apply below_drew1 | refine below_set ?_ GE129.out) | exact HB.out))) : w.heap.size ≤ gb130)); have n5_ := Aside0.mk ((by rw [hg]; exact (below_size (by repeat (first | (with_reducible first | exact HB.out | apply below_alloc | apply pw_below_drewN | apply below_drew1 | refine below_set ?_ GE129.out) | exact HB.out))) : w.heap.size ≤ gb130)); have n6_ := Aside0.mk ((by rw [hg]; exact Nat.ne_of_lt (blk_lt (g := gb129) (o := .cells #[.int .i64 a0_0, .int .i64 a0_1, .string a0_2, .slice A0_3 l0_3.length c0_3, .slice A0_4 l0_4.length c0_4] 25 (0, 0)) (by (with_reducible repeat (first | refine blk_drewN ?_ _ | refine blk_drew ?_ | refine blk_alloc ?_ _)); exact BK129.out)) : gb129 ≠ gb130)); have n7_ := Aside0.mk ((by rw [hg]; exact Nat.ne_of_gt (blk_lt (g := gb129) (o := .cells #[.int .i64 a0_0, .int .i64 a0_1, .string a0_2, .slice A0_3 l0_3.length c0_3, .slice A0_4 l0_4.length c0_4] 25 (0, 0)) (by (with_reducible repeat (first | refine blk_drewN ?_ _ | refine blk_drew ?_ | refine blk_alloc ?_ _)); exact BK129.out)) : gb130 ≠ gb129)); clear HO0_4; clear BK129; clear HB; have HO0_4 := n0_; have BK129 := n1_; have HB := n2_; have BK130 := n3_; have GW130 := n4_; have GE130 := n5_; have NB129_130 := n6_; have NB130_129 := n7_; clear n0_ n1_ n2_ n3_ n4_ n5_ n6_ n7_; clear hb hbox hg; have hnb29 := NB129_130.out; have hnc29 := NB130_129.out; have hcz30_0 : w28.cell? ⟨gb129, 0, none⟩ = some (.int .i64 a0_0) := (blk_cell BK129.out 0).trans rfl; have hcz30_1 : w28.cell? ⟨gb129, 1, none⟩ = some (.int .i64 a0_1) := (blk_cell BK129.out 1).trans rfl; have hcz30_2 : w28.cell? ⟨gb129, 2, none⟩ = some (.string a0_2) := (blk_cell BK129.out 2).trans rfl; have hcz30_3 : w28.cell? ⟨gb129, 3, none⟩ = some (.slice A0_3 l0_3.length c0_3) := (blk_cell BK129.out 3).trans rfl; have hcz30_4 : w28.cell? ⟨gb129, 4, none⟩ = some (.slice A0_4 l0_4.length c0_4) := (blk_cell BK129.out 4).trans rfl; have hfz30_0 := blk_frozen BK129.out 0; have hfz30_1 := blk_frozen BK129.out 1; have hfz30_2 := blk_frozen BK129.out 2; have hfz30_3 := blk_frozen BK129.out 3; have hfz30_4 := blk_frozen BK129.out 4; have hcz31_0 : w28.cell? ⟨gb130, 0, none⟩ = some (.int .i64 0) := (blk_cell BK130.out 0).trans rfl; have hcz31_1 : w28.cell? ⟨gb130, 1, none⟩ = some (.int .i64 0) := (blk_cell BK130.out 1).trans rfl; have hcz31_2 : w28.cell? ⟨gb130, 2, none⟩ = some (.string (⟨#[]⟩ : ByteArray)) := (blk_cell BK130.out 2).trans rfl; have hcz31_3 : w28.cell? ⟨gb130, 3, none⟩ = some (.slice none 0 0) := (blk_cell BK130.out 3).trans rfl; have hcz31_4 : w28.cell? ⟨gb130, 4, none⟩ = some (.slice none 0 0) := (blk_cell BK130.out 4).trans rfl; have hfz31_0 := blk_frozen BK130.out 0; have hfz31_1 := blk_frozen BK130.out 1; have hfz31_2 := blk_frozen BK130.out 2; have hfz31_3 := blk_frozen BK130.out 3; have hfz31_4 := blk_frozen BK130.out 4))
    refine bodyPost_ret (results_ct rfl _ _ gb130 25 #[.int .i64 0, .int .i64 0, .string (⟨#[]⟩ : ByteArray), .slice none 0 0, .slice none 0 0] (0, 0) _ rfl (by (with_reducible repeat (first | refine blk_drewN ?_ _ | refine blk_drew ?_ | refine blk_alloc ?_ _)); refine blk_put (cs := #[.int .i64 0, .int .i64 0, .string (⟨#[]⟩ : ByteArray), .slice none 0 0, .slice none 0 0]) ?_ 4 _ rfl; (with_reducible repeat (first | refine blk_drewN ?_ _ | refine blk_drew ?_ | refine blk_alloc ?_ _)); refine blk_put (cs := #[.int .i64 0, .int .i64 0, .string (⟨#[]⟩ : ByteArray), .slice none 0 0, .slice none 0 0]) ?_ 3 _ rfl; (with_reducible repeat (first | refine blk_drewN ?_ _ | refine blk_drew ?_ | refine blk_alloc ?_ _)); refine blk_put (cs := #[.int .i64 0, .int .i64 0, .string (⟨#[]⟩ : ByteArray), .slice none 0 0, .slice none 0 0]) ?_ 2 _ rfl; (with_reducible repeat (first | refine blk_drewN ?_ _ | refine blk_drew ?_ | refine blk_alloc ?_ _)); refine blk_put (cs := #[.int .i64 0, .int .i64 0, .string (⟨#[]⟩ : ByteArray), .slice none 0 0, .slice none 0 0]) ?_ 1 _ rfl; (with_reducible repeat (first | refine blk_drewN ?_ _ | refine blk_drew ?_ | refine blk_alloc ?_ _)); refine blk_put (cs := #[.int .i64 0, .int .i64 0, .string (⟨#[]⟩ : ByteArray), .slice none 0 0, .slice none 0 0]) ?_ 0 _ rfl; (with_reducible repeat (first | refine blk_drewN ?_ _ | refine blk_drew ?_ | refine blk_alloc ?_ _)); exact BK130.out) Try.underlying25 rfl (by kernel_rfl)) rfl ?_
    exact ⟨_, _, by first | rfl | (simp [errW_none, errW_some] <;> rfl) | (simp [*, errW_none, errW_some] <;> rfl), (by exact Kd.V_nil _ _ _ _ _), (by exact Kd.V_nil _ _ _ _ _), by repeat (first | (with_reducible first | exact HB.out | apply below_alloc | apply pw_below_drewN | apply below_drew1 | refine below_set ?_ GE129.out | refine below_set ?_ GE130.out) | exact HB.out)⟩
end Go.Proofs.Ytbnmcnghmnhigaa.X
end
section
namespace Go.Proofs.Ytbnmcnghmnhigaa.X
open Go.RowKit Go.Proofs.YtbnmcnghmnhigaaW.PrintWords Go.Proofs.YtbnmcnghmnhigaaW.PrintLast
set_option linter.unusedVariables false
set_option linter.unusedSimpArgs false
theorem rdn (L : List S25) (i : Nat) (h : i < L.length) : rd_T25 L (i : Int) = L[i] := by
  unfold rd_T25
  rw [show ((i : Int)).toNat = i from rfl, List.getD_eq_getElem?_getD, List.getElem?_eq_getElem h]
  rfl
theorem rds (K : List ByteArray) (i : Nat) (h : i < K.length) : rdOf ByteArray.empty K (i : Int) = K[i] := by
  unfold rdOf
  rw [show ((i : Int)).toNat = i from rfl, List.getD_eq_getElem?_getD, List.getElem?_eq_getElem h]
  rfl
theorem rde (l : List S119) (i : Nat) (h : i < l.length) : rd_T119 l (i : Int) = l[i] := by
  unfold rd_T119
  rw [show ((i : Int)).toNat = i from rfl, List.getD_eq_getElem?_getD, List.getElem?_eq_getElem h]
  rfl
def ents (K : List ByteArray) (L : List S25) : List S119 := List.zipWith (fun k x => ⟨k, x⟩) K L
theorem ents_len (K : List ByteArray) (L : List S25) : (ents K L).length = min K.length L.length := by unfold ents; rw [List.length_zipWith]
theorem ents_get (K : List ByteArray) (L : List S25) (i : Nat) (h : i < (ents K L).length) (h1 : i < K.length) (h2 : i < L.length) : (ents K L)[i] = ⟨K[i], L[i]⟩ := by
  simp [ents, List.getElem_zipWith]
theorem entries_go (a0 a1 : Int) (a2 : ByteArray) (K : List ByteArray) (L : List S25) (hL : L.length ≤ 1466015503700) (m : Int) (hm : m = ((min K.length L.length : Nat) : Int)) :
    ∀ (n : Nat) (acc : List S119) (i : Nat), i + n = min K.length L.length → acc.length = i → Ev (fun k => tree_entries.l0 k acc m (i : Int) a0 a1 a2 K L) (acc ++ (ents K L).drop i) := by
  intro n
  induction n with
  | zero =>
    intro acc i hi ha
    rw [List.drop_eq_nil_of_le (by rw [ents_len]; omega), List.append_nil]
    refine Ev.step (f := fun _ => some acc) (fun k => ?_) (Ev.now _)
    rw [tree_entries.l0, if_neg (by omega)]
  | succ n ih =>
    intro acc i hi ha
    have hk : i < K.length := by omega
    have hl : i < L.length := by omega
    have he : i < (ents K L).length := by rw [ents_len]; omega
    have h2 := ih (acc ++ [⟨K[i], L[i]⟩]) (i + 1) (by omega) (by simp [ha])
    rw [List.append_assoc, List.singleton_append] at h2
    rw [List.drop_eq_getElem_cons he, ents_get K L i he hk hl]
    refine Ev.step (fun k => ?_) h2
    rw [tree_entries.l0, if_pos (by omega), if_pos (by omega), if_pos (by omega), if_pos (by omega), if_pos (by omega), rds K i hk, rdn L i hl, w64s i (by omega), eta_]
theorem entries_ev (a0 a1 : Int) (a2 : ByteArray) (K : List ByteArray) (L : List S25) (hL : L.length ≤ 1466015503700) : Ev (fun k => tree_entries.f k a0 a1 a2 K L) (ents K L) := by
  have := entries_go a0 a1 a2 K L hL (mn (K.length : Int) (L.length : Int)) (by unfold mn; split <;> omega) (min K.length L.length) [] 0 (by omega) rfl
  rw [List.nil_append, List.drop_zero] at this
  exact this
def look : List S119 → ByteArray → Option S25
  | [], _ => none
  | e :: r, s => if e.f0.toList = s.toList then some e.f1 else look r s
def idx : List S119 → ByteArray → Nat → Int
  | [], _, _ => -1
  | e :: r, s, i => if e.f0.toList = s.toList then (i : Int) else idx r s (i + 1)
theorem look_idx (s : ByteArray) : ∀ (l : List S119) (i : Nat), (look l s = none ∧ idx l s i = -1) ∨ ∃ (j : Nat) (h : j < l.length), look l s = some l[j].f1 ∧ idx l s i = ((i + j : Nat) : Int)
  | [], i => .inl ⟨rfl, rfl⟩
  | e :: r, i => by
    by_cases c : e.f0.toList = s.toList
    · exact .inr ⟨0, by simp, by simp [look, c], by simp [idx, c]⟩
    · rcases look_idx s r (i + 1) with ⟨h1, h2⟩ | ⟨j, hj, h1, h2⟩
      · exact .inl ⟨by simp [look, c, h1], by simp [idx, c, h2]⟩
      · refine .inr ⟨j + 1, by simp; omega, by simp [look, c, h1], ?_⟩
        simp only [idx, if_neg c, h2]
        omega
def get (a0 : Int) (K : List ByteArray) (L : List S25) (s : ByteArray) : Option S25 := if a0 = 6 then look (ents K L) s else none
def tup : Option S25 → Int × Int × ByteArray × List ByteArray × List S25 × Bool
  | none => (0, 0, (⟨#[]⟩ : ByteArray), [], [], false)
  | some x => (x.f0, x.f1, x.f2, x.f3, x.f4, true)
theorem Get_go (s : ByteArray) (l : List S119) (hl : l.length ≤ 1466015503700) : ∀ (n i : Nat), i + n = l.length → Ev (fun k => tree_Get.l0 k s l (l.length : Int) (i : Int)) (tup (look (l.drop i) s)) := by
  intro n
  induction n with
  | zero =>
    intro i hi
    rw [List.drop_eq_nil_of_le (by omega)]
    refine Ev.step (f := fun _ => some (tup none)) (fun k => ?_) (Ev.now _)
    rw [tree_Get.l0, if_neg (by omega)]
    rfl
  | succ n ih =>
    intro i hi
    have h : i < l.length := by omega
    rw [List.drop_eq_getElem_cons h]
    by_cases c : l[i].f0.toList = s.toList
    · simp only [look, if_pos c]
      refine Ev.step (f := fun _ => some (tup (some l[i].f1))) (fun k => ?_) (Ev.now _)
      rw [tree_Get.l0, if_pos (by omega), if_pos (by omega), if_pos (by omega), rde l i h, if_pos c]
      rfl
    · simp only [look, if_neg c]
      refine Ev.step (fun k => ?_) (ih (i + 1) (by omega))
      rw [tree_Get.l0, if_pos (by omega), if_pos (by omega), if_pos (by omega), rde l i h, if_neg c, w64s i (by omega)]
theorem Get_ev (a0 a1 : Int) (a2 : ByteArray) (K : List ByteArray) (L : List S25) (s : ByteArray) (hL : L.length ≤ 1466015503700) : Ev (fun k => tree_Get.f k a0 a1 a2 K L s) (tup (get a0 K L s)) := by
  unfold tree_Get.f get
  by_cases c : a0 = 6
  · rw [if_pos c]
    refine evPos c (Ev.bind (f := fun n t => tree_Get.l0 n s t (t.length : Int) 0) (entries_ev a0 a1 a2 K L hL) ?_)
    have := Get_go s (ents K L) (by rw [ents_len]; omega) (ents K L).length 0 (by omega)
    rw [List.drop_zero] at this
    exact this
  · rw [if_neg c]
    exact evNeg c (Ev.now _)
def at_ (a0 : Int) (K : List ByteArray) (L : List S25) (s : ByteArray) : Int := if a0 = 6 then idx (ents K L) s 0 else -1
theorem At_go (s : ByteArray) (a1 : Int) (a2 : ByteArray) (K : List ByteArray) (L : List S25) (hL : L.length ≤ 1466015503700) : ∀ (n i : Nat), i + n = min K.length L.length → Ev (fun k => sealringref07_At.l0 k s (i : Int) 6 a1 a2 K L) (idx ((ents K L).drop i) s i) := by
  intro n
  induction n with
  | zero =>
    intro i hi
    rw [List.drop_eq_nil_of_le (by rw [ents_len]; omega)]
    have hj : Ev (fun k => sealringref07_At.j1 k s (i : Int) false 6 a1 a2 K L) (-1) := by
      refine Ev.step (f := fun _ => some (-1)) (fun k => ?_) (Ev.now _)
      rw [sealringref07_At.j1, if_neg (by simp)]
    refine Ev.step (fun k => ?_) hj
    rw [sealringref07_At.l0]
    by_cases c1 : (i : Int) < (K.length : Int)
    · rw [if_pos c1, if_neg (by omega)]
    · rw [if_neg c1]
  | succ n ih =>
    intro i hi
    have hk : i < K.length := by omega
    have hl : i < L.length := by omega
    have he : i < (ents K L).length := by rw [ents_len]; omega
    rw [List.drop_eq_getElem_cons he, ents_get K L i he hk hl]
    by_cases c : K[i].toList = s.toList
    · simp only [idx, if_pos c]
      refine Ev.step (fun k => ?_) (Ev.step (g := fun k => sealringref07_At.j1 k s (i : Int) true 6 a1 a2 K L) (f := fun _ => some (i : Int)) (fun k => ?_) (Ev.now _))
      · rw [sealringref07_At.l0, if_pos (by omega), if_pos (by omega)]
        rfl
      · rw [sealringref07_At.j1, if_pos rfl, if_pos (by omega), if_pos (by omega), rds K i hk, if_pos c]
    · simp only [idx, if_neg c]
      refine Ev.step (fun k => ?_) (Ev.step (g := fun k => sealringref07_At.j1 k s (i : Int) true 6 a1 a2 K L) (fun k => ?_) (ih (i + 1) (by omega)))
      · rw [sealringref07_At.l0, if_pos (by omega), if_pos (by omega)]
        rfl
      · rw [sealringref07_At.j1, if_pos rfl, if_pos (by omega), if_pos (by omega), rds K i hk, if_neg c, w64s i (by omega)]
theorem At_ev (a0 a1 : Int) (a2 : ByteArray) (K : List ByteArray) (L : List S25) (s : ByteArray) (hL : L.length ≤ 1466015503700) : Ev (fun k => sealringref07_At.f k a0 a1 a2 K L s) (at_ a0 K L s) := by
  unfold sealringref07_At.f at_
  by_cases c : a0 = 6
  · rw [if_pos c, c]
    have := At_go s a1 a2 K L hL (min K.length L.length) 0 (by omega)
    rw [List.drop_zero] at this
    exact this
  · rw [if_neg c]
    have hb : (a0 == 6) = false := by simpa using c
    have hj : Ev (fun k => sealringref07_At.j1 k s 0 false a0 a1 a2 K L) (-1) := by
      refine Ev.step (f := fun _ => some (-1)) (fun k => ?_) (Ev.now _)
      rw [sealringref07_At.j1, if_neg (by simp)]
    refine Ev.step (fun k => ?_) hj
    rw [sealringref07_At.l0, hb]
    by_cases c1 : (0 : Int) < (K.length : Int)
    · rw [if_pos c1]
      by_cases c2 : (0 : Int) < (L.length : Int)
      · rw [if_pos c2]
      · rw [if_neg c2]
    · rw [if_neg c1]
theorem get_at (a0 : Int) (K : List ByteArray) (L : List S25) (s : ByteArray) :
    (get a0 K L s = none ∧ at_ a0 K L s = -1) ∨ ∃ (j : Nat) (h : j < L.length), get a0 K L s = some L[j] ∧ at_ a0 K L s = (j : Int) ∧ j < K.length := by
  unfold get at_
  by_cases c : a0 = 6
  · rw [if_pos c, if_pos c]
    rcases look_idx s (ents K L) 0 with h | ⟨j, hj, h1, h2⟩
    · exact .inl h
    · have hm : j < min K.length L.length := by rw [← ents_len]; exact hj
      refine .inr ⟨j, by omega, ?_, by simpa using h2, by omega⟩
      rw [h1, ents_get K L j hj (by omega) (by omega)]
  · rw [if_neg c, if_neg c]
    exact .inl ⟨rfl, rfl⟩
theorem rGet_ev (a0 a1 : Int) (a2 : ByteArray) (K : List ByteArray) (L : List S25) (s : ByteArray) (hL : L.length ≤ 1466015503700) : Ev (fun k => sealringref07_Get.f k a0 a1 a2 K L s) (tup (get a0 K L s)) := by
  unfold sealringref07_Get.f
  refine Ev.bind (f := fun _ t => if t < 0 then some (tup none) else _) (At_ev a0 a1 a2 K L s hL) ?_
  rcases get_at a0 K L s with ⟨h1, h2⟩ | ⟨j, hj, h1, h2, h3⟩
  · rw [h1, h2]
    exact evPos (by decide) (Ev.now _)
  · rw [h1, h2]
    refine evNeg (by omega) (evPos (by omega) (evPos (by omega) ?_))
    rw [rdn L j hj]
    exact Ev.now _
theorem get_mem {a0 : Int} {K : List ByteArray} {L : List S25} {s : ByteArray} {x} (h : get a0 K L s = some x) : x ∈ L := by
  rcases get_at a0 K L s with ⟨h1, _⟩ | ⟨j, hj, h1, _⟩
  · rw [h1] at h; cases h
  · rw [h1] at h
    cases h
    exact List.getElem_mem hj
mutual
def nodes : S25 → List S25
  | ⟨a, b, s, K, L⟩ => ⟨a, b, s, K, L⟩ :: nodesL L
def nodesL : List S25 → List S25
  | [] => []
  | x :: r => nodes x ++ nodesL r
end
theorem nodes_eq (x : S25) : nodes x = x :: nodesL x.f4 := by cases x; rw [nodes]
mutual
theorem nodes_len : ∀ x : S25, 6 * (nodes x).length ≤ bk x
  | ⟨a, b, s, K, L⟩ => by
    have := nodesL_len L
    rw [nodes, bk, List.length_cons]
    omega
theorem nodesL_len : ∀ l : List S25, 6 * (nodesL l).length ≤ bkL l
  | [] => Nat.le_refl _
  | x :: r => by
    have := nodes_len x
    have := nodesL_len r
    rw [nodesL, bkL, List.length_append]
    omega
end
mutual
def depth : S25 → Nat
  | ⟨_, _, _, _, L⟩ => depthL L + 1
def depthL : List S25 → Nat
  | [] => 0
  | x :: r => max (depth x) (depthL r)
end
theorem depth_eq (x : S25) : depth x = depthL x.f4 + 1 := by cases x; rw [depth]
mutual
theorem depth_bk : ∀ x : S25, depth x ≤ bk x
  | ⟨a, b, s, K, L⟩ => by
    have := depthL_bk L
    rw [depth, bk]
    omega
theorem depthL_bk : ∀ l : List S25, depthL l ≤ bkL l
  | [] => Nat.le_refl _
  | x :: r => by
    have := depth_bk x
    have := depthL_bk r
    rw [depthL, bkL]
    omega
end
theorem Depth_ev : ∀ (m : Nat) (a0 a1 : Int) (a2 : ByteArray) (K : List ByteArray) (L : List S25), bkL L ≤ m → m ≤ 1466015503700 → Ev (fun k => sealringref07_Depth.f k a0 a1 a2 K L) ((depthL L + 1 : Nat) : Int) := by
  intro m
  induction m using Nat.strongRecOn with
  | _ m ih =>
    intro a0 a1 a2 K L hb hm
    have hlen := bkL_len L
    have go : ∀ (n i d : Nat), i + n = L.length → d ≤ m → Ev (fun k => sealringref07_Depth.l0 k (d : Int) (i : Int) a0 a1 a2 K L) ((max d (depthL (L.drop i)) + 1 : Nat) : Int) := by
      intro n
      induction n with
      | zero =>
        intro i d hi hd
        rw [List.drop_eq_nil_of_le (by omega)]
        refine Ev.step (f := fun _ => some _) (fun k => ?_) (Ev.now _)
        rw [sealringref07_Depth.l0, if_neg (by omega), w64s d (by omega)]
        simp [depthL]
      | succ n ihn =>
        intro i d hi hd
        have h : i < L.length := by omega
        have hx := bkL_mem (List.getElem_mem h)
        have hx2 := bk_eq L[i]
        have hx3 := depthL_bk L[i].f4
        have hd2 := ih (bkL L[i].f4) (by omega) L[i].f0 L[i].f1 L[i].f2 L[i].f3 L[i].f4 (Nat.le_refl _) (by omega)
        rw [List.drop_eq_getElem_cons h, depthL, depth_eq L[i]]
        refine Ev.step (fun k => ?_) (Ev.bind (f := fun k t => if t > (d : Int) then sealringref07_Depth.l0 k t ((i + 1 : Nat) : Int) a0 a1 a2 K L else sealringref07_Depth.l0 k (d : Int) ((i + 1 : Nat) : Int) a0 a1 a2 K L) hd2 ?_)
        · rw [sealringref07_Depth.l0, if_pos (by omega), if_pos (by omega), rdn L i h, w64s i (by omega)]
        · by_cases c : ((depthL L[i].f4 + 1 : Nat) : Int) > (d : Int)
          · refine evPos c ?_
            have := ihn (i + 1) (depthL L[i].f4 + 1) (by omega) (by omega)
            rw [show max d (max (depthL L[i].f4 + 1) (depthL (L.drop (i + 1)))) = max (depthL L[i].f4 + 1) (depthL (L.drop (i + 1))) by omega]
            exact this
          · refine evNeg c ?_
            have := ihn (i + 1) d (by omega) hd
            rw [show max d (max (depthL L[i].f4 + 1) (depthL (L.drop (i + 1)))) = max d (depthL (L.drop (i + 1))) by omega]
            exact this
    refine Ev.step (g := fun k => sealringref07_Depth.f k a0 a1 a2 K L) (fun k => ?_) (go L.length 0 0 (by omega) (by omega) |> fun h => by rw [List.drop_zero, Nat.zero_max] at h; exact h)
    rw [sealringref07_Depth.f]
    rfl
theorem All_ev : ∀ (m : Nat) (a0 a1 : Int) (a2 : ByteArray) (K : List ByteArray) (L : List S25), bkL L ≤ m → m ≤ 1466015503700 → Ev (fun k => sealringref07_All.f k a0 a1 a2 K L) (⟨a0, a1, a2, K, L⟩ :: nodesL L) := by
  intro m
  induction m using Nat.strongRecOn with
  | _ m ih =>
    intro a0 a1 a2 K L hb hm
    have hlen := bkL_len L
    have go : ∀ (n i : Nat) (acc : List S25), i + n = L.length → acc.length + (nodesL (L.drop i)).length ≤ 1466015503700 → Ev (fun k => sealringref07_All.l0 k acc (i : Int) a0 a1 a2 K L) (acc ++ nodesL (L.drop i)) := by
      intro n
      induction n with
      | zero =>
        intro i acc hi ha
        rw [List.drop_eq_nil_of_le (by omega), nodesL, List.append_nil]
        refine Ev.step (f := fun _ => some acc) (fun k => ?_) (Ev.now _)
        rw [sealringref07_All.l0, if_neg (by omega)]
      | succ n ihn =>
        intro i acc hi ha
        have h : i < L.length := by omega
        have hx := bkL_mem (List.getElem_mem h)
        have hx2 := bk_eq L[i]
        have hd2 := ih (bkL L[i].f4) (by omega) L[i].f0 L[i].f1 L[i].f2 L[i].f3 L[i].f4 (Nat.le_refl _) (by omega)
        have hn : L[i] :: nodesL L[i].f4 = nodes L[i] := (nodes_eq _).symm
        rw [List.drop_eq_getElem_cons h, nodesL, List.length_append] at ha
        rw [List.drop_eq_getElem_cons h, nodesL]
        refine Ev.step (fun k => ?_) (Ev.bind (f := fun k t => if acc.length + t.length < 1759218604441 then sealringref07_All.l0 k (acc ++ t) ((i + 1 : Nat) : Int) a0 a1 a2 K L else none) hd2 ?_)
        · rw [sealringref07_All.l0, if_pos (by omega), if_pos (by omega), rdn L i h, w64s i (by omega)]
        · rw [show ((⟨L[i].f0, L[i].f1, L[i].f2, L[i].f3, L[i].f4⟩ : S25) :: nodesL L[i].f4) = nodes L[i] from by rw [eta_]; exact hn]
          refine evPos (by omega) ?_
          have := ihn (i + 1) (acc ++ nodes L[i]) (by omega) (by rw [List.length_append]; omega)
          rw [List.append_assoc] at this
          exact this
    have hn := nodesL_len L
    have := go L.length 0 [⟨a0, a1, a2, K, L⟩] (by omega) (by rw [List.drop_zero]; simp; omega)
    rw [List.drop_zero] at this
    refine Ev.step (fun k => ?_) this
    rw [sealringref07_All.f]
    rfl
theorem Few1_go (x1 : Int) (x5 x16 : List S25) (x17 x18 : Int) (K : List ByteArray) (hK : K.length ≤ 1466015503700) (P : Bool → Prop) (hk : ∀ x6, ∃ b, P b ∧ Ev (fun k => sealringlaw07_Few.l0 k x1 x5 x6 x16 x17 (wrap64 (x18 + 1))) b) :
    ∀ (n i : Nat) (x6 : Int), i + n = K.length → ∃ b, P b ∧ Ev (fun k => sealringlaw07_Few.l1 k x1 x5 x6 x16 x17 x18 K (K.length : Int) (i : Int)) b := by
  intro n
  induction n with
  | zero =>
    intro i x6 hi
    obtain ⟨b, hp, hb⟩ := hk x6
    refine ⟨b, hp, Ev.step (fun k => ?_) hb⟩
    rw [sealringlaw07_Few.l1, if_neg (by omega)]
  | succ n ih =>
    intro i x6 hi
    obtain ⟨b, hp, hb⟩ := ih (i + 1) (wrap64 (x6 + (wrap64 (((rdOf ByteArray.empty K (i : Int)).size : Int) + 1)))) (by omega)
    refine ⟨b, hp, Ev.step (fun k => ?_) hb⟩
    rw [sealringlaw07_Few.l1, if_pos (by omega), if_pos (by omega), if_pos (by omega), w64s i (by omega)]
theorem Few0_go (x1 : Int) (x5 l : List S25) (hl : l.length ≤ 1466015503700) (hk : ∀ x ∈ l, x.f3.length ≤ 1466015503700) :
    ∀ (n i : Nat) (x6 : Int), i + n = l.length → ∃ b : Bool, (b = true → (x5.length : Int) ≤ x1) ∧ Ev (fun k => sealringlaw07_Few.l0 k x1 x5 x6 l (l.length : Int) (i : Int)) b := by
  intro n
  induction n with
  | zero =>
    intro i x6 hi
    by_cases c : (x5.length : Int) ≤ x1
    · refine ⟨decide (x6 ≤ 3000), fun _ => c, Ev.step (f := fun _ => some _) (fun k => ?_) (Ev.now _)⟩
      rw [sealringlaw07_Few.l0, if_neg (by omega), if_pos c]
    · refine ⟨false, by simp, Ev.step (f := fun _ => some _) (fun k => ?_) (Ev.now _)⟩
      rw [sealringlaw07_Few.l0, if_neg (by omega), if_neg c]
  | succ n ih =>
    intro i x6 hi
    have h : i < l.length := by omega
    obtain ⟨b, hp, hb⟩ := Few1_go x1 x5 l (l.length : Int) (i : Int) l[i].f3 (hk _ (List.getElem_mem h)) (fun b => b = true → (x5.length : Int) ≤ x1) (fun y => by
      rw [w64s i (by omega)]
      exact ih (i + 1) y (by omega)) l[i].f3.length 0 (wrap64 (x6 + ((l[i].f2).size : Int))) (by omega)
    refine ⟨b, hp, Ev.step (fun k => ?_) hb⟩
    rw [sealringlaw07_Few.l0, if_pos (by omega), if_pos (by omega), if_pos (by omega), rdn l i h]
    rfl
mutual
theorem nodes_bk : ∀ (x : S25), ∀ y ∈ nodes x, bk y ≤ bk x
  | ⟨a, b, s, K, L⟩, y, hy => by
    rw [nodes] at hy
    rcases List.mem_cons.1 hy with rfl | hy
    · exact Nat.le_refl _
    · have := nodesL_bk L y hy
      rw [bk]
      omega
theorem nodesL_bk : ∀ (l : List S25), ∀ y ∈ nodesL l, bk y ≤ bkL l
  | [], y, hy => by simp [nodesL] at hy
  | x :: r, y, hy => by
    rw [nodesL] at hy
    rw [bkL]
    rcases List.mem_append.1 hy with hy | hy
    · have := nodes_bk x y hy
      omega
    · have := nodesL_bk r y hy
      omega
end
theorem Few_ev (a0 a1 : Int) (a2 : ByteArray) (K : List ByteArray) (L : List S25) (most : Int) (hb : bk ⟨a0, a1, a2, K, L⟩ ≤ 1466015503700) :
    ∃ b : Bool, (b = true → ((nodesL L).length + 1 : Int) ≤ most ∧ depthL L + 1 ≤ 80) ∧ Ev (fun k => sealringlaw07_Few.f k a0 a1 a2 K L most) b := by
  have hb2 := bk_eq ⟨a0, a1, a2, K, L⟩
  simp only at hb2
  have hd := Depth_ev (bkL L) a0 a1 a2 K L (Nat.le_refl _) (by omega)
  have ha := All_ev (bkL L) a0 a1 a2 K L (Nat.le_refl _) (by omega)
  have hn := nodesL_len L
  by_cases c : ((depthL L + 1 : Nat) : Int) > 80
  · exact ⟨false, by simp, Ev.bind (f := fun k t => if t > 80 then some false else _) hd (evPos c (Ev.now _))⟩
  · obtain ⟨b, hp, h⟩ := Few0_go most (⟨a0, a1, a2, K, L⟩ :: nodesL L) (⟨a0, a1, a2, K, L⟩ :: nodesL L) (by rw [List.length_cons]; omega) (fun x hx => by
      have h1 : bk x ≤ bk ⟨a0, a1, a2, K, L⟩ := by
        rcases List.mem_cons.1 hx with rfl | hx
        · exact Nat.le_refl _
        · have := nodesL_bk L x hx; omega
      have h2 := bk_eq x
      have h3 := bkK_len x.f3
      omega) _ 0 0 (Nat.zero_add _)
    refine ⟨b, fun hb' => ?_, Ev.bind (f := fun k t => if t > 80 then some false else (sealringref07_All.f k a0 a1 a2 K L).bind fun t117 => sealringlaw07_Few.l0 k most t117 0 t117 (t117.length : Int) 0) hd (evNeg c (Ev.bind (f := fun k t117 => sealringlaw07_Few.l0 k most t117 0 t117 (t117.length : Int) 0) ha h))⟩
    have := hp hb'
    rw [List.length_cons] at this
    omega
end Go.Proofs.Ytbnmcnghmnhigaa.X
end
section
namespace Go.Proofs.Ytbnmcnghmnhigaa.X
open Go.RowKit Go.Proofs.YtbnmcnghmnhigaaW.PrintWords Go.Proofs.YtbnmcnghmnhigaaW.PrintLast Go.Proofs.YtbnmcnghmnhigaaW.PrintMore
set_option linter.unusedVariables false
set_option linter.unusedSimpArgs false
abbrev rlc (x : S48) : List Value := [.string x.f0, .int .i64 x.f1, .bool x.f2, .int .i64 x.f3, .bool x.f4]
set_option maxHeartbeats 1600000 in
set_option maxRecDepth 100000 in
theorem clone_rule (A : Option Addr) (c : Nat) (l : List S48) (w : World) (hr : Kd.C k48 w A l.length l) (hc : l.length ≤ c) (hl : l.length * 48 ≤ 140737488355328) :
    Calls Try.prog 115 #[.slice A l.length c] w fun e w' => ∃ v, e = .returned v ∧ Kd.R k48 48 w' w.heap.size (fun _ => True) v l ∧ Below w.heap.size w w' := by
  have HB := Aside0.mk (Below.refl w.heap.size w)
  have HR := Aside0.mk hr
  have HL := Aside0.mk hl
  cases A with
  | none =>
    have h0 : l = [] := by
      cases l with
      | nil => rfl
      | cons x xs => obtain ⟨_, he, _⟩ := hr.2.2 (by simp); cases he
    subst h0
    clear hr hc hl
    go_enter Try.func115, Try.ntmps115
    have hln : ∀ W : World, (binOp BinOp.eql 43 (.slice none 0 c) (.slice none 0 0)).run Try.prog W = .ok (.bool true) W := fun W => by kernel_rfl
    go_wp2
    go_ret
    exact ⟨_, rfl, Kd.R_nil _ _ _ _ _, HB.out⟩
  | some ad =>
    have hln : ∀ W : World, (binOp BinOp.eql 43 (.slice (some ad) l.length c) (.slice none 0 0)).run Try.prog W = .ok (.bool false) W := fun W => by kernel_rfl
    clear hr hc hl
    go_enter Try.func115, Try.ntmps115
    go_wp2_with (first
      | ((with_reducible refine gate_dst (N := 5) rfl ?_); refine Kd.R_lit k48 _ 48 ?hg (N := 5) ?hd (xs := ([] : List S48)) (inner := []) (ok := fun _ => True) (okp := fun _ => True) ?hr ?hp (fun _ hk => hk) trivial (Below.refl _ _) (Nat.le_refl _) (by simp) ?_; (case hd => rfl); (case hg => rfl); (case hr => first | (go_simp; done) | (go_simp; rfl)); (case hp => exact (Reps.none _ _)); intro v1 w1 ho1 hb1 hg_ hnew_; clear hg_ hnew_; have HO := Aside0.mk ho1; have HB1 := Aside0.mk hb1; have HR1 := Aside0.mk (Kd.C_below HR.out hb1); clear ho1 hb1)
      | (at_builtin; refine Kd.R_append_rows k48 (w0 := w) w.heap.size rfl (.tmp 5) (.tmp 6) 43 48 _ 48 rfl Try.underlying43 info48 rfl (by decide) (by omega) v1 [] l (some ad) l.length c (fun _ => True) (fun _ => False) rfl rfl HO.out HR1.out (fun x cs h => by obtain rfl := k48_open h; exact k48_mkM _ _ _ _) (fun _ h => h.elim) (fun _ _ => trivial) HB1.out HB1.out.size (by simpa using HL.out) ?_; intro v2 w2 ho2 hb2 hg2 hat2; have HO2 := Aside0.mk ho2; have HB2 := Aside0.mk hb2; clear ho2 hb2 hg2 hat2))
    go_ret
    exact ⟨_, rfl, HO2.out, HB2.out⟩
theorem rule_put {W : World} {base g n cap : Nat} {ok : Nat → Prop} {xs : List S48} (HO : Kd.R k48 48 W base ok (.slice (some ⟨g, 0, none⟩) n cap) xs) (i : Nat) (hi : i < xs.length) (j : Nat) (hj : j < 5) (u : Value) (hu : u.oneCell' = true) (x' : S48) (hx : (rlc xs[i]).take j ++ [u] ++ (rlc xs[i]).drop (j + 1) = rlc x') :
    Kd.R k48 48 (W.setCell ⟨g, i * 5 + j, none⟩ u) base ok (.slice (some ⟨g, 0, none⟩) n cap) (xs.set i x') := by
  have hn := (Kd.R_reads' HO).1
  obtain ⟨c, hcl, hcM, hcc, _⟩ := Kd.R_elem HO z48 (i : Int) (by omega) (by omega)
  have hget : xs.getD ((i : Int)).toNat z48 = xs[i] := by
    rw [show ((i : Int)).toNat = i from rfl, List.getD_eq_getElem?_getD, List.getElem?_eq_getElem hi]; rfl
  rw [hget] at hcM
  obtain rfl := k48_openM hcM
  have h := (Kd.R_seg (d := k48) (seg := [u]) (x' := x') (okp := fun _ => False) HO (i : Int) (by omega) (by omega) hcl hcc (by show j + 1 ≤ 5; omega) (by
    rw [show (rlc xs[i]).take j ++ [u] ++ (rlc xs[i]).drop (j + [u].length) = rlc x' from hx]
    exact k48_mkM _ _ _ _) (fun _ h => h.elim)).1
  exact h
theorem R_ge {W : World} {base g n cap : Nat} {ok : Nat → Prop} {xs : List S48} (HO : Kd.R k48 48 W base ok (.slice (some ⟨g, 0, none⟩) n cap) xs) : base ≤ g := Kd.R_base HO g (by simp [Value.ownBlock])
set_option maxHeartbeats 800000 in
theorem mostR1 (most : Int) (g o : Nat) (u : Value) (w : World) (bx : Addr) (hb : w.cell? bx = some (.int .i64 most)) (hc : w.cell? ⟨g, o + 3, none⟩ = some u) (hf : w.frozen? ⟨g, o + 3, none⟩ = false) (hu : u.oneCell' = true) :
    Calls Try.prog 77 #[.pointer (some ⟨g, o, none⟩), .pointer (some bx)] w fun e w' => e = .returned (.tuple #[]) ∧ w' = w.setCell ⟨g, o + 3, none⟩ (.int .i64 most) := by
  go_enter Try.func77, Try.ntmps77
  go_wp2
  go_end0
  exact ⟨rfl, rfl⟩
abbrev mostRG (most : Int) (x : S48) : S48 := { x with f3 := most }
set_option maxHeartbeats 800000 in
theorem lowR1  (g o : Nat) (u : Value) (w : World)  (hc : w.cell? ⟨g, o + 4, none⟩ = some u) (hf : w.frozen? ⟨g, o + 4, none⟩ = false) (hu : u.oneCell' = true) :
    Calls Try.prog 78 #[.pointer (some ⟨g, o, none⟩)] w fun e w' => e = .returned (.tuple #[]) ∧ w' = w.setCell ⟨g, o + 4, none⟩ (.bool true) := by
  go_enter Try.func78, Try.ntmps78
  go_wp2
  go_end0
  exact ⟨rfl, rfl⟩
abbrev lowRG (x : S48) : S48 := { x with f4 := true }
set_option maxHeartbeats 3200000 in
set_option maxRecDepth 100000 in
theorem each_mostR (most : Int) (A : Option Addr) (c : Nat) (l : List S48) (w : World) (hr : Kd.C k48 w A l.length l) (hc : l.length ≤ c) (hl : l.length * 48 ≤ 140737488355328) (bx : Addr) (hbx : w.cell? bx = some (.int .i64 most)) :
    Calls Try.prog 76 #[.slice A l.length c, .func (.func 77) #[] #[.pointer (some bx)]] w fun e w' => ∃ v, e = .returned v ∧ Kd.R k48 48 w' w.heap.size (fun _ => True) v (l.map (mostRG most)) ∧ Below w.heap.size w w' := by
  have HR := Aside0.mk hr
  have HC := Aside0.mk hc
  have HL := Aside0.mk hl
  have hlm : l.length ≤ 2932031007402 := by omega
  clear hr hc hl
  go_enter Try.func76, Try.ntmps76
  go_wp2_with (go_at_call 115; refine (clone_rule A c l _ HR.out HC.out HL.out).mono ?_; rintro e w1 ⟨v, rfl, ho, hb⟩; obtain ⟨A1, k1, rfl⟩ := Kd.R_slice ho; have HO := Aside0.mk ho; have HB := Aside0.mk hb; clear ho hb)
  go_loopw [10] (fun i wr => ∃ k : Nat, k ≤ l.length ∧ i = .int .i64 k ∧ Aside0 (Kd.R k48 48 wr w.heap.size (fun _ => True) (.slice A1 l.length k1) ((l.take k).map (mostRG most) ++ l.drop k)) ∧ Aside0 (Below w.heap.size w wr)) (fun i _ => l.length - (intOf i).toNat)
  case atStart => exact ⟨0, Nat.zero_le _, rfl, ⟨by simpa using HO.out⟩, HB⟩
  case round =>
    obtain ⟨k, hk, rfl, HOk, HBk⟩ := hrel
    clear HO HB
    have hmn : min k l.length = k := by omega
    by_cases hlt : k < l.length
    · have hxl : ((l.take k).map (mostRG most) ++ l.drop k).length = l.length := by simp; omega
      obtain ⟨g, cap, he, _, _, _⟩ := Kd.R_form HOk.out (by rw [hxl]; omega)
      rw [hxl] at he
      injection he with hA _ hcap
      subst hA hcap
      have hgk : ((l.take k).map (mostRG most) ++ l.drop k)[k]'(by rw [hxl]; exact hlt) = l[k] := by
        rw [List.getElem_append_right (by simp; omega)]
        simp [hmn]
      obtain ⟨cc, hcl, hcM, hcc, hff⟩ := Kd.R_elem HOk.out z48 (k : Int) (by omega) (by omega)
      have hget : ((l.take k).map (mostRG most) ++ l.drop k).getD ((k : Int)).toNat z48 = l[k] := by
        rw [show ((k : Int)).toNat = k from rfl, List.getD_eq_getElem?_getD, List.getElem?_eq_getElem (by rw [hxl]; exact hlt), hgk]; rfl
      rw [hget] at hcM
      obtain rfl := k48_openM hcM
      have q0 : wr.cell? ⟨g, k * 5 + 3, none⟩ = some (.int .i64 l[k].f3) := hcc 3 _ rfl
      have f0 : wr.frozen? ⟨g, k * 5 + 3, none⟩ = false := hff 3
      have hput := rule_put HOk.out k (by rw [hxl]; exact hlt) 3 (by decide) (.int .i64 most) rfl (mostRG most l[k]) (by rw [hgk]; rfl)
      have hset : ((l.take k).map (mostRG most) ++ l.drop k).set k (mostRG most l[k]) = (l.take (k + 1)).map (mostRG most) ++ l.drop (k + 1) := by
        rw [List.take_succ_eq_append_getElem hlt, List.map_append, List.set_append_right _ _ (by simp; omega)]
        simp [hmn]
        rw [List.drop_eq_getElem_cons hlt]
        rfl
      rw [hset] at hput
      have HP := Aside0.mk hput
      have hBs := below_set (v := (.int .i64 most)) HBk.out (R_ge HOk.out) (j := k * 5 + 3)
      have HBs := Aside0.mk hBs
      have hbw := Aside0.mk (pw_cell_below HBk.out hbx)
      clear hcc hff hcM hget hgk hput hset hBs hxl hcl
      go_wp2_with (go_at_call 77; refine (mostR1 most g (k * 5) _ _ bx hbw.out q0 f0 rfl).mono ?_; rintro e w2 ⟨rfl, rfl⟩)
      go_roundw
      case rel => exact ⟨k + 1, by omega, by go_num, HP, HBs⟩
      case measure => simp [intOf]; omega
    · obtain rfl : k = l.length := by omega
      go_wp2
      go_ret
      refine ⟨_, rfl, ?_, HBk.out⟩
      have h := HOk.out
      simpa using h
set_option maxHeartbeats 3200000 in
set_option maxRecDepth 100000 in
theorem each_lowR  (A : Option Addr) (c : Nat) (l : List S48) (w : World) (hr : Kd.C k48 w A l.length l) (hc : l.length ≤ c) (hl : l.length * 48 ≤ 140737488355328)  :
    Calls Try.prog 76 #[.slice A l.length c, .func (.func 78) #[] #[]] w fun e w' => ∃ v, e = .returned v ∧ Kd.R k48 48 w' w.heap.size (fun _ => True) v (l.map (lowRG )) ∧ Below w.heap.size w w' := by
  have HR := Aside0.mk hr
  have HC := Aside0.mk hc
  have HL := Aside0.mk hl
  have hlm : l.length ≤ 2932031007402 := by omega
  clear hr hc hl
  go_enter Try.func76, Try.ntmps76
  go_wp2_with (go_at_call 115; refine (clone_rule A c l _ HR.out HC.out HL.out).mono ?_; rintro e w1 ⟨v, rfl, ho, hb⟩; obtain ⟨A1, k1, rfl⟩ := Kd.R_slice ho; have HO := Aside0.mk ho; have HB := Aside0.mk hb; clear ho hb)
  go_loopw [10] (fun i wr => ∃ k : Nat, k ≤ l.length ∧ i = .int .i64 k ∧ Aside0 (Kd.R k48 48 wr w.heap.size (fun _ => True) (.slice A1 l.length k1) ((l.take k).map (lowRG ) ++ l.drop k)) ∧ Aside0 (Below w.heap.size w wr)) (fun i _ => l.length - (intOf i).toNat)
  case atStart => exact ⟨0, Nat.zero_le _, rfl, ⟨by simpa using HO.out⟩, HB⟩
  case round =>
    obtain ⟨k, hk, rfl, HOk, HBk⟩ := hrel
    clear HO HB
    have hmn : min k l.length = k := by omega
    by_cases hlt : k < l.length
    · have hxl : ((l.take k).map (lowRG ) ++ l.drop k).length = l.length := by simp; omega
      obtain ⟨g, cap, he, _, _, _⟩ := Kd.R_form HOk.out (by rw [hxl]; omega)
      rw [hxl] at he
      injection he with hA _ hcap
      subst hA hcap
      have hgk : ((l.take k).map (lowRG ) ++ l.drop k)[k]'(by rw [hxl]; exact hlt) = l[k] := by
        rw [List.getElem_append_right (by simp; omega)]
        simp [hmn]
      obtain ⟨cc, hcl, hcM, hcc, hff⟩ := Kd.R_elem HOk.out z48 (k : Int) (by omega) (by omega)
      have hget : ((l.take k).map (lowRG ) ++ l.drop k).getD ((k : Int)).toNat z48 = l[k] := by
        rw [show ((k : Int)).toNat = k from rfl, List.getD_eq_getElem?_getD, List.getElem?_eq_getElem (by rw [hxl]; exact hlt), hgk]; rfl
      rw [hget] at hcM
      obtain rfl := k48_openM hcM
      have q0 : wr.cell? ⟨g, k * 5 + 4, none⟩ = some (.bool l[k].f4) := hcc 4 _ rfl
      have f0 : wr.frozen? ⟨g, k * 5 + 4, none⟩ = false := hff 4
      have hput := rule_put HOk.out k (by rw [hxl]; exact hlt) 4 (by decide) (.bool true) rfl (lowRG  l[k]) (by rw [hgk]; rfl)
      have hset : ((l.take k).map (lowRG ) ++ l.drop k).set k (lowRG  l[k]) = (l.take (k + 1)).map (lowRG ) ++ l.drop (k + 1) := by
        rw [List.take_succ_eq_append_getElem hlt, List.map_append, List.set_append_right _ _ (by simp; omega)]
        simp [hmn]
        rw [List.drop_eq_getElem_cons hlt]
        rfl
      rw [hset] at hput
      have HP := Aside0.mk hput
      have hBs := below_set (v := (.bool true)) HBk.out (R_ge HOk.out) (j := k * 5 + 4)
      have HBs := Aside0.mk hBs
      clear hcc hff hcM hget hgk hput hset hBs hxl hcl
      go_wp2_with (go_at_call 78; refine (lowR1  g (k * 5) _ _  q0 f0 rfl).mono ?_; rintro e w2 ⟨rfl, rfl⟩)
      go_roundw
      case rel => exact ⟨k + 1, by omega, by go_num, HP, HBs⟩
      case measure => simp [intOf]; omega
    · obtain rfl : k = l.length := by omega
      go_wp2
      go_ret
      refine ⟨_, rfl, ?_, HBk.out⟩
      have h := HOk.out
      simpa using h
def field_Most.f (a0 : Int) (l : List S48) : Option (List S48) := if l.length * 48 ≤ 140737488355328 then some (l.map (mostRG a0)) else none
set_option maxHeartbeats 1600000 in
theorem field_Most.calls (a0 : Int) (A1 : Option Addr) (c1 : Nat) (l1 : List S48) (r : List S48) (w : World) (hr1 : Kd.C k48 w A1 l1.length l1) (hc1 : l1.length ≤ c1) (h : field_Most.f a0 l1 = some r) :
    Calls Try.prog 28 #[.int .i64 a0, .slice A1 l1.length c1] w fun e w' => ∃ v0_ : Value, e = .returned v0_ ∧ Kd.R k48 48 w' w.heap.size (fun _ => True) v0_ r ∧ Below w.heap.size w w' := by
  unfold field_Most.f at h
  by_cases hl : l1.length * 48 ≤ 140737488355328
  case neg => rw [if_neg hl] at h; cases h
  rw [if_pos hl] at h
  obtain rfl := Option.some.inj h
  clear h
  have HR := Aside0.mk hr1
  have HC := Aside0.mk hc1
  have HL := Aside0.mk hl
  have hb0 := (blk_cell (blk_new w (.cells #[.int .i64 a0] 3)) 0).trans (show (#[Value.int .i64 a0])[0]? = some (.int .i64 a0) from rfl)
  have hB0 := Aside0.mk (below_alloc (Below.refl w.heap.size w) (.cells #[.int .i64 a0] 3))
  clear hr1 hc1 hl
  go_enter Try.func28, Try.ntmps28
  go_wp2_with (go_at_call 76; refine (each_mostR a0 A1 c1 l1 _ (Kd.C_below HR.out hB0.out) HC.out HL.out _ hb0).mono ?_; rintro e w1 ⟨v, rfl, ho, hb⟩; have HO := Aside0.mk ho; have HB2 := Aside0.mk hb; clear ho hb)
  go_ret
  exact ⟨_, rfl, Kd.R_lower HO.out (by simp), below_then hB0.out hB0.out.size HB2.out⟩
def field_Low.f  (l : List S48) : Option (List S48) := if l.length * 48 ≤ 140737488355328 then some (l.map (lowRG )) else none
set_option maxHeartbeats 1600000 in
theorem field_Low.calls  (A1 : Option Addr) (c1 : Nat) (l1 : List S48) (r : List S48) (w : World) (hr1 : Kd.C k48 w A1 l1.length l1) (hc1 : l1.length ≤ c1) (h : field_Low.f  l1 = some r) :
    Calls Try.prog 29 #[.slice A1 l1.length c1] w fun e w' => ∃ v0_ : Value, e = .returned v0_ ∧ Kd.R k48 48 w' w.heap.size (fun _ => True) v0_ r ∧ Below w.heap.size w w' := by
  unfold field_Low.f at h
  by_cases hl : l1.length * 48 ≤ 140737488355328
  case neg => rw [if_neg hl] at h; cases h
  rw [if_pos hl] at h
  obtain rfl := Option.some.inj h
  clear h
  have HR := Aside0.mk hr1
  have HC := Aside0.mk hc1
  have HL := Aside0.mk hl
  clear hr1 hc1 hl
  go_enter Try.func29, Try.ntmps29
  go_wp2_with (go_at_call 76; refine (each_lowR A1 c1 l1 _ HR.out HC.out HL.out).mono ?_; rintro e w1 ⟨v, rfl, ho, hb⟩; have HO := Aside0.mk ho; have HB2 := Aside0.mk hb; clear ho hb)
  go_ret
  exact ⟨_, rfl, HO.out, HB2.out⟩
end Go.Proofs.Ytbnmcnghmnhigaa.X
end
section
namespace Go.Proofs.Ytbnmcnghmnhigaa.X
open Go.RowKit Go.WideMaps Go.Maps
set_option linter.unusedVariables false
theorem wpList_insert_own {H : Type} {P : Program} (w : World) {ops : Array Oper} {rest : List Oper} {o : Oper} {a : Act} {Q : Exit → Act → World → Prop}
    (hg : o.guard = none) (m x v : Operand) (t : TypeId) (hop : o.op = Op.insert t m x v)
    (k e : TypeId) (K : Keyed P k) (ht : P.underlying t = some (.map k e)) (R : Value → Option (DataW H × List MemPlace)) (b n : Nat) (D : DataW H)
    (hm : a.eval m = .map (some b)) (hown : w.ownsMap P k R b n D) (hn : n < maxLen) (key val : Value) (kl : Lit) (hx : a.eval x = key) (hv : a.eval v = val) (hkey : keyOf P k key = some kl)
    (d : DataW H) (ps : List MemPlace) (hval : R val = some (d, ps))
    (hK : ∀ w', w'.ownsMap P k R b (n + 1) (D.put kl d) → w.grownBy w' (some b) → wpList P ops Q rest (a.put o.dst undef) w') :
    wpList P ops Q (o :: rest) a w := by
  refine wpList_plain hg fun K' hK' => ?_
  obtain ⟨w', hrun, r1, r2⟩ := hown.update K ht hn hkey hval
  unfold Oper.wp
  simp [execOp, hop, hm, hx, hv, hrun, Result.andThen]
  exact hK' _ _ (hK w' r1 r2)
theorem below_map {w w1 : World} {b : Nat} (h : w.grownBy w1 (some b)) {w0 : World} (h0 : Below w0.heap.size w0 w) (hb : w0.heap.size ≤ b) : Below w0.heap.size w0 w1 :=
  h0.grown h h0.size (fun j hj => by cases hj; exact hb)
end Go.Proofs.Ytbnmcnghmnhigaa.X
end
section
namespace Go.Proofs.Ytbnmcnghmnhigaa.X
open Go.RowKit Go.Proofs.YtbnmcnghmnhigaaW.PrintWords Go.Proofs.YtbnmcnghmnhigaaW.PrintLast Go.Proofs.YtbnmcnghmnhigaaW.PrintMore Go.WideMaps Go.Maps
set_option linter.unusedVariables false
set_option linter.unusedSimpArgs false
def fnV (i : Int) : Value := if i = 1 then .func (.func 132) #[] #[] else if i = 2 then .func (.func 133) #[] #[] else if i = 3 then .func (.func 134) #[] #[] else .nilFunc
open Classical in
noncomputable def fnR (v : Value) : Option (DataW Unit × List MemPlace) :=
  if v = fnV 0 then some (.lit (.int .i64 0), []) else if v = fnV 1 then some (.lit (.int .i64 1), []) else if v = fnV 2 then some (.lit (.int .i64 2), []) else if v = fnV 3 then some (.lit (.int .i64 3), []) else none
theorem fnV_01 : fnV 1 ≠ fnV 0 := by intro h; cases h
theorem fnV_02 : fnV 2 ≠ fnV 0 := by intro h; cases h
theorem fnV_03 : fnV 3 ≠ fnV 0 := by intro h; cases h
theorem fnV_12 : fnV 2 ≠ fnV 1 := by intro h; simp [fnV] at h
theorem fnV_13 : fnV 3 ≠ fnV 1 := by intro h; simp [fnV] at h
theorem fnV_23 : fnV 3 ≠ fnV 2 := by intro h; simp [fnV] at h
theorem fnR_0 : fnR (fnV 0) = some (.lit (.int .i64 0), []) := by unfold fnR; rw [if_pos rfl]
theorem fnR_1 : fnR (fnV 1) = some (.lit (.int .i64 1), []) := by unfold fnR; rw [if_neg fnV_01, if_pos rfl]
theorem fnR_2 : fnR (fnV 2) = some (.lit (.int .i64 2), []) := by unfold fnR; rw [if_neg fnV_02, if_neg fnV_12, if_pos rfl]
theorem fnR_3 : fnR (fnV 3) = some (.lit (.int .i64 3), []) := by unfold fnR; rw [if_neg fnV_03, if_neg fnV_13, if_neg fnV_23, if_pos rfl]
def litF : DataW Unit → Int | .lit (.int _ n) => n | _ => -1
theorem fnR_inv {v : Value} {d : DataW Unit} {ps : List MemPlace} (h : fnR v = some (d, ps)) : v = fnV (litF d) := by
  unfold fnR at h
  split at h
  · cases h; assumption
  · split at h
    · cases h; assumption
    · split at h
      · cases h; assumption
      · split at h
        · cases h; assumption
        · cases h
def limD : DataW Unit := (((((DataW.map [] : DataW Unit).put (.int .i64 4) (.lit (.int .i64 2))).put (.int .i64 5) (.lit (.int .i64 1))).put (.int .i64 6) (.lit (.int .i64 1))).put (.int .i64 3) (.lit (.int .i64 3)))
def limI (c : Int) : Int := if c = 4 then 2 else if c = 5 then 1 else if c = 6 then 1 else if c = 3 then 3 else 0
theorem lim_at (c : Int) : limD.atKey (.int .i64 c) (.lit (.int .i64 0)) = .lit (.int .i64 (limI c)) := by
  by_cases h3 : c = 3
  · subst h3; rfl
  by_cases h4 : c = 4
  · subst h4; rfl
  by_cases h5 : c = 5
  · subst h5; rfl
  by_cases h6 : c = 6
  · subst h6; rfl
  have ne : ∀ k : Int, c ≠ k → (Lit.int .i64 c) ≠ (Lit.int .i64 k) := fun k h e => h (by injection e)
  unfold limD
  rw [atKey_put_other (ne _ h3), atKey_put_other (ne _ h6), atKey_put_other (ne _ h5), atKey_put_other (ne _ h4)]
  simp only [limI, if_neg h3, if_neg h4, if_neg h5, if_neg h6]
  rfl
theorem keyI : Keyed Try.prog 3 := int_keyed Try.underlying3
theorem zeroFn (w : World) : (zeroValue 141).run Try.prog w = .ok (fnV 0) w := by kernel_rfl
set_option maxHeartbeats 1600000 in
set_option maxRecDepth 100000 in
theorem field_limits.calls (w : World) :
    Calls Try.prog 116 #[] w fun e w' => ∃ b, e = .returned (.map (some b)) ∧ w'.ownsMap Try.prog 3 fnR b 4 limD ∧ Below w.heap.size w w' := by
  have hmm := @run_makeMap Try.prog
  have hb0 := below_alloc (Below.refl w.heap.size w) (.map #[] 0)
  have hown0 := World.ownsMap_made (H := Unit) w Try.prog 3 fnR
  go_enter Try.func116, Try.ntmps116
  go_wp2_with (first
    | ((with_reducible show wpList _ _ _ (⟨none, Op.insert _ _ _ _, _, _, _, _⟩ :: _) _ _); refine wpList_insert_own _ rfl (.tmp 2) _ _ 142 rfl 3 141 keyI Try.underlying142 _ w.heap.size 0 _ rfl hown0 (by decide) _ _ (.int .i64 4) rfl rfl (keyOf_int_mk Try.underlying3 (by decide)) (.lit (.int .i64 2)) [] fnR_2 ?_; intro w1 hown1 hg1)
    | ((with_reducible show wpList _ _ _ (⟨none, Op.insert _ _ _ _, _, _, _, _⟩ :: _) _ _); refine wpList_insert_own _ rfl (.tmp 2) _ _ 142 rfl 3 141 keyI Try.underlying142 _ w.heap.size 1 _ rfl hown1 (by decide) _ _ (.int .i64 5) rfl rfl (keyOf_int_mk Try.underlying3 (by decide)) (.lit (.int .i64 1)) [] fnR_1 ?_; intro w2 hown2 hg2)
    | ((with_reducible show wpList _ _ _ (⟨none, Op.insert _ _ _ _, _, _, _, _⟩ :: _) _ _); refine wpList_insert_own _ rfl (.tmp 2) _ _ 142 rfl 3 141 keyI Try.underlying142 _ w.heap.size 2 _ rfl hown2 (by decide) _ _ (.int .i64 6) rfl rfl (keyOf_int_mk Try.underlying3 (by decide)) (.lit (.int .i64 1)) [] fnR_1 ?_; intro w3 hown3 hg3)
    | ((with_reducible show wpList _ _ _ (⟨none, Op.insert _ _ _ _, _, _, _, _⟩ :: _) _ _); refine wpList_insert_own _ rfl (.tmp 2) _ _ 142 rfl 3 141 keyI Try.underlying142 _ w.heap.size 3 _ rfl hown3 (by decide) _ _ (.int .i64 3) rfl rfl (keyOf_int_mk Try.underlying3 (by decide)) (.lit (.int .i64 3)) [] fnR_3 ?_; intro w4 hown4 hg4))
  go_ret
  exact ⟨_, rfl, hown4, (below_map hg4 (below_map hg3 (below_map hg2 (below_map hg1 hb0 (Nat.le_refl _)) (Nat.le_refl _)) (Nat.le_refl _)) (Nat.le_refl _))⟩
theorem lim_look {w : World} {b : Nat} (h : w.ownsMap Try.prog 3 fnR b 4 limD) {c : Int} (hc : (Lit.int .i64 c).wf = true) :
    (Instr.lookup 142 (.map (some b)) (.int .i64 c) false).run Try.prog w = .ok (fnV (limI c)) w := by
  obtain ⟨v, ps, hrun, hv⟩ := h.lookup keyI Try.underlying142 (zeroFn _) fnR_0 (keyOf_int_mk Try.underlying3 hc)
  rw [lim_at] at hv
  rw [hrun, fnR_inv hv]
  rfl
set_option maxHeartbeats 1600000 in
theorem lim_fn1 (b0 : ByteArray) (b1 : Int) (b2 : Bool) (b3 : Int) (b4 : Bool) (t1 t2 : Int) (t3 : ByteArray) (A3 : Option Addr) (n3 c3 : Nat) (A4 : Option Addr) (n4 c4 : Nat) (w : World) :
    Calls Try.prog 132 #[.agg #[.string b0, .int .i64 b1, .bool b2, .int .i64 b3, .bool b4], .agg #[.int .i64 t1, .int .i64 t2, .string t3, .slice A3 n3 c3, .slice A4 n4 c4]] w fun e w' => e = .returned (.int .i64 (if b3 > 0 then (if (n4 : Int) > b3 then 18 else 0) else 0)) ∧ Below w.heap.size w w' := by
  have hu25 := Try.underlying25
  have hu48 := Try.underlying48
  by_cases h1 : b3 > 0
  · rw [if_pos h1]
    have h1b : decide (b3 > 0) = true := decide_eq_true h1
    have h1c : decide (0 < b3) = true := decide_eq_true h1
    by_cases h2 : (n4 : Int) > b3
    · rw [if_pos h2]
      have h2b : decide ((n4 : Int) > b3) = true := decide_eq_true h2
      have h2c : decide (b3 < (n4 : Int)) = true := decide_eq_true h2
      clear h1 h2
      go_enter Try.func132, Try.ntmps132
      go_wp2
      go_ret
      exact ⟨rfl, (((Below.refl _ _).alloc (Nat.le_refl _) _).alloc (by simp) _)⟩
    · rw [if_neg h2]
      have h2b : decide ((n4 : Int) > b3) = false := decide_eq_false h2
      have h2c : decide (b3 < (n4 : Int)) = false := decide_eq_false h2
      clear h1 h2
      go_enter Try.func132, Try.ntmps132
      go_wp2
      go_ret
      exact ⟨rfl, (((Below.refl _ _).alloc (Nat.le_refl _) _).alloc (by simp) _)⟩
  · rw [if_neg h1]
    have h1b : decide (b3 > 0) = false := decide_eq_false h1
    have h1c : decide (0 < b3) = false := decide_eq_false h1
    clear h1
    go_enter Try.func132, Try.ntmps132
    go_wp2
    go_ret
    exact ⟨rfl, (((Below.refl _ _).alloc (Nat.le_refl _) _).alloc (by simp) _)⟩
set_option maxHeartbeats 1600000 in
theorem lim_fn2 (b0 : ByteArray) (b1 : Int) (b2 : Bool) (b3 : Int) (b4 : Bool) (t1 t2 : Int) (t3 : ByteArray) (A3 : Option Addr) (n3 c3 : Nat) (A4 : Option Addr) (n4 c4 : Nat) (w : World) :
    Calls Try.prog 133 #[.agg #[.string b0, .int .i64 b1, .bool b2, .int .i64 b3, .bool b4], .agg #[.int .i64 t1, .int .i64 t2, .string t3, .slice A3 n3 c3, .slice A4 n4 c4]] w fun e w' => e = .returned (.int .i64 (if b3 > 0 then (if (t3.size : Int) > b3 then 4 else 0) else 0)) ∧ Below w.heap.size w w' := by
  have hu25 := Try.underlying25
  have hu48 := Try.underlying48
  by_cases h1 : b3 > 0
  · rw [if_pos h1]
    have h1b : decide (b3 > 0) = true := decide_eq_true h1
    have h1c : decide (0 < b3) = true := decide_eq_true h1
    by_cases h2 : (t3.size : Int) > b3
    · rw [if_pos h2]
      have h2b : decide ((t3.size : Int) > b3) = true := decide_eq_true h2
      have h2c : decide (b3 < (t3.size : Int)) = true := decide_eq_true h2
      clear h1 h2
      go_enter Try.func133, Try.ntmps133
      go_wp2
      go_ret
      exact ⟨rfl, (((Below.refl _ _).alloc (Nat.le_refl _) _).alloc (by simp) _)⟩
    · rw [if_neg h2]
      have h2b : decide ((t3.size : Int) > b3) = false := decide_eq_false h2
      have h2c : decide (b3 < (t3.size : Int)) = false := decide_eq_false h2
      clear h1 h2
      go_enter Try.func133, Try.ntmps133
      go_wp2
      go_ret
      exact ⟨rfl, (((Below.refl _ _).alloc (Nat.le_refl _) _).alloc (by simp) _)⟩
  · rw [if_neg h1]
    have h1b : decide (b3 > 0) = false := decide_eq_false h1
    have h1c : decide (0 < b3) = false := decide_eq_false h1
    clear h1
    go_enter Try.func133, Try.ntmps133
    go_wp2
    go_ret
    exact ⟨rfl, (((Below.refl _ _).alloc (Nat.le_refl _) _).alloc (by simp) _)⟩
set_option maxHeartbeats 1600000 in
theorem lim_fn3 (b0 : ByteArray) (b1 : Int) (b2 : Bool) (b3 : Int) (b4 : Bool) (t1 t2 : Int) (t3 : ByteArray) (A3 : Option Addr) (n3 c3 : Nat) (A4 : Option Addr) (n4 c4 : Nat) (w : World) :
    Calls Try.prog 134 #[.agg #[.string b0, .int .i64 b1, .bool b2, .int .i64 b3, .bool b4], .agg #[.int .i64 t1, .int .i64 t2, .string t3, .slice A3 n3 c3, .slice A4 n4 c4]] w fun e w' => e = .returned (.int .i64 (if b4 = true then (if t2 < 0 then 2 else 0) else 0)) ∧ Below w.heap.size w w' := by
  have hu25 := Try.underlying25
  have hu48 := Try.underlying48
  by_cases h1 : b4 = true
  · rw [if_pos h1]
    subst h1
    by_cases h2 : t2 < 0
    · rw [if_pos h2]
      have h2b : decide (t2 < 0) = true := decide_eq_true h2
      clear h2
      go_enter Try.func134, Try.ntmps134
      go_wp2
      go_ret
      exact ⟨rfl, (((Below.refl _ _).alloc (Nat.le_refl _) _).alloc (by simp) _)⟩
    · rw [if_neg h2]
      have h2b : decide (t2 < 0) = false := decide_eq_false h2
      clear h2
      go_enter Try.func134, Try.ntmps134
      go_wp2
      go_ret
      exact ⟨rfl, (((Below.refl _ _).alloc (Nat.le_refl _) _).alloc (by simp) _)⟩
  · rw [if_neg h1]
    have h1b : b4 = false := by simpa using h1
    subst h1b
    clear h1
    go_enter Try.func134, Try.ntmps134
    go_wp2
    go_ret
    exact ⟨rfl, (((Below.refl _ _).alloc (Nat.le_refl _) _).alloc (by simp) _)⟩
def limP (b3 : Int) (b4 : Bool) (t1 t2 : Int) (t3 : ByteArray) (n4 : Int) : Int :=
  if t1 = 4 then (if b3 > 0 then (if (t3.size : Int) > b3 then 4 else 0) else 0) else if t1 = 5 ∨ t1 = 6 then (if b3 > 0 then (if n4 > b3 then 18 else 0) else 0) else if t1 = 3 then (if b4 = true then (if t2 < 0 then 2 else 0) else 0) else 0
def field_one.f (k : Nat) (a0 a1 : Int) (a2 : ByteArray) (l3 : List ByteArray) (l4 : List S25) (b0 : ByteArray) (b1 : Int) (b2 : Bool) (b3 : Int) (b4 : Bool) : Option Int :=
  (tree_Get.f k a0 a1 a2 l3 l4 b0).bind fun t => if t.2.2.2.2.2 = true then (if b1 ≠ 0 ∧ t.1 ≠ b1 then some 16 else if (Lit.int .i64 t.1).wf = true then some (limP b3 b4 t.1 t.2.1 t.2.2.1 (t.2.2.2.2.1.length : Int)) else none) else if b2 = true then some 15 else some 0
theorem field_one.mono : ∀ a0 a1 a2 a3 a4 b0 b1 b2 b3 b4 k, LeO (field_one.f k a0 a1 a2 a3 a4 b0 b1 b2 b3 b4) (field_one.f (k + 1) a0 a1 a2 a3 a4 b0 b1 b2 b3 b4) := by
  intro a0 a1 a2 a3 a4 b0 b1 b2 b3 b4 k
  unfold field_one.f
  exact LeO.bind (tree_Get.mono _ _ _ _ _ _ _) (fun _ => LeO.refl _)
set_option maxHeartbeats 6400000 in
set_option maxRecDepth 100000 in
theorem one_no1 (k : Nat) (a0_0 : Int) (a0_1 : Int) (a0_2 : ByteArray) (A0_3 : Option Addr) (c0_3 : Nat) (l0_3 : List ByteArray) (A0_4 : Option Addr) (c0_4 : Nat) (l0_4 : List S25) (b0 : ByteArray) (b1 : Int) (b2 : Bool) (b3 : Int) (b4 : Bool) (w : World) (hr0_3 : Kd.C Kd.string w A0_3 l0_3.length l0_3) (hc0_3 : l0_3.length ≤ c0_3) (hr0_4 : Kd.C k25 w A0_4 l0_4.length l0_4) (hc0_4 : l0_4.length ≤ c0_4)
    (t1 t2 : Int) (t3 : ByteArray) (t4 : List ByteArray) (t5 : List S25) (ok : Bool) (hG : tree_Get.f k a0_0 a0_1 a0_2 l0_3 l0_4 b0 = some (t1, t2, t3, t4, t5, ok)) (ho : ok = false) (h2 : b2 = true) :
    Calls Try.prog 79 #[.agg #[.int .i64 a0_0, .int .i64 a0_1, .string a0_2, .slice A0_3 l0_3.length c0_3, .slice A0_4 l0_4.length c0_4], .agg #[.string b0, .int .i64 b1, .bool b2, .int .i64 b3, .bool b4]] w fun e w' => e = .returned (.int .i64 (15)) ∧ Below w.heap.size w w' := by
  have hu25 := Try.underlying25
  have hu48 := Try.underlying48
  have HG := Aside0.mk hG
  have hBB := below_alloc (below_alloc (Below.refl w.heap.size w) (.cells #[.int .i64 a0_0, .int .i64 a0_1, .string a0_2, .slice A0_3 l0_3.length c0_3, .slice A0_4 l0_4.length c0_4] 25)) (.cells #[.string b0, .int .i64 b1, .bool b2, .int .i64 b3, .bool b4] 48)
  have HB0 := Aside0.mk hBB
  have H3 := Aside0.mk (Kd.C_below hr0_3 hBB)
  have C3 := Aside0.mk hc0_3
  have C4 := Aside0.mk hc0_4
  have H4 := Aside0.mk (Kd.F_below (Kd.C_F k25_heap hr0_4) hBB)
  have r1 := (blk_below (blk_new w (.cells #[.int .i64 a0_0, .int .i64 a0_1, .string a0_2, .slice A0_3 l0_3.length c0_3, .slice A0_4 l0_4.length c0_4] 25)) (below_alloc (Below.refl _ _) (.cells #[.string b0, .int .i64 b1, .bool b2, .int .i64 b3, .bool b4] 48)))
  have r2 := (blk_new (w.alloc (.cells #[.int .i64 a0_0, .int .i64 a0_1, .string a0_2, .slice A0_3 l0_3.length c0_3, .slice A0_4 l0_4.length c0_4] 25)) (.cells #[.string b0, .int .i64 b1, .bool b2, .int .i64 b3, .bool b4] 48))
  rw [World.size_alloc] at r2
  have HR2 := Aside0.mk r2
  subst ho h2
  clear hG hr0_3 hr0_4 hc0_3 hc0_4 hBB r1 r2
  go_enter Try.func79, Try.ntmps79
  go_wp2_with (go_at_call 61; (with_reducible refine (tree_Get.calls k a0_0 a0_1 a0_2 _ _ l0_3 (fun k_ => k_ < w.heap.size) _ _ l0_4 b0 t1 t2 t3 t4 t5 _ _ ?side1 ?side2 ?side3 HG.out).mono ?_); (case side1 => exact H3.out); (case side2 => exact C3.out); (case side3 => exact Kd.V_mk C4.out H4.out); rintro e w8 ⟨v3, v4, rfl, ho0, ho1, hb⟩; obtain ⟨A3, c3, rfl⟩ := Kd.V_slice ho0; obtain ⟨A4, c4, rfl⟩ := Kd.V_slice ho1; have hs := (blk_below HR2.out hb); have s0 : w8.cell? ⟨w.heap.size + 1, 0, none⟩ = some (.string _) := (blk_cell hs 0).trans rfl; have s1 : w8.cell? ⟨w.heap.size + 1, 1, none⟩ = some (.int .i64 _) := (blk_cell hs 1).trans rfl; have s2 : w8.cell? ⟨w.heap.size + 1, 2, none⟩ = some (.bool _) := (blk_cell hs 2).trans rfl; have s3 : w8.cell? ⟨w.heap.size + 1, 3, none⟩ = some (.int .i64 _) := (blk_cell hs 3).trans rfl; have s4 : w8.cell? ⟨w.heap.size + 1, 4, none⟩ = some (.bool _) := (blk_cell hs 4).trans rfl; have hz8 : w.heap.size + 1 < w8.heap.size := blk_lt hs; have HB8 := Aside0.mk hb; have HS := Aside0.mk hs; clear ho0 ho1 hb hs)
  go_ret
  exact ⟨rfl, below_alloc (below_then HB0.out HB0.out.size HB8.out) _⟩
set_option maxHeartbeats 6400000 in
set_option maxRecDepth 100000 in
theorem one_no0 (k : Nat) (a0_0 : Int) (a0_1 : Int) (a0_2 : ByteArray) (A0_3 : Option Addr) (c0_3 : Nat) (l0_3 : List ByteArray) (A0_4 : Option Addr) (c0_4 : Nat) (l0_4 : List S25) (b0 : ByteArray) (b1 : Int) (b2 : Bool) (b3 : Int) (b4 : Bool) (w : World) (hr0_3 : Kd.C Kd.string w A0_3 l0_3.length l0_3) (hc0_3 : l0_3.length ≤ c0_3) (hr0_4 : Kd.C k25 w A0_4 l0_4.length l0_4) (hc0_4 : l0_4.length ≤ c0_4)
    (t1 t2 : Int) (t3 : ByteArray) (t4 : List ByteArray) (t5 : List S25) (ok : Bool) (hG : tree_Get.f k a0_0 a0_1 a0_2 l0_3 l0_4 b0 = some (t1, t2, t3, t4, t5, ok)) (ho : ok = false) (h2 : b2 = false) :
    Calls Try.prog 79 #[.agg #[.int .i64 a0_0, .int .i64 a0_1, .string a0_2, .slice A0_3 l0_3.length c0_3, .slice A0_4 l0_4.length c0_4], .agg #[.string b0, .int .i64 b1, .bool b2, .int .i64 b3, .bool b4]] w fun e w' => e = .returned (.int .i64 (0)) ∧ Below w.heap.size w w' := by
  have hu25 := Try.underlying25
  have hu48 := Try.underlying48
  have HG := Aside0.mk hG
  have hBB := below_alloc (below_alloc (Below.refl w.heap.size w) (.cells #[.int .i64 a0_0, .int .i64 a0_1, .string a0_2, .slice A0_3 l0_3.length c0_3, .slice A0_4 l0_4.length c0_4] 25)) (.cells #[.string b0, .int .i64 b1, .bool b2, .int .i64 b3, .bool b4] 48)
  have HB0 := Aside0.mk hBB
  have H3 := Aside0.mk (Kd.C_below hr0_3 hBB)
  have C3 := Aside0.mk hc0_3
  have C4 := Aside0.mk hc0_4
  have H4 := Aside0.mk (Kd.F_below (Kd.C_F k25_heap hr0_4) hBB)
  have r1 := (blk_below (blk_new w (.cells #[.int .i64 a0_0, .int .i64 a0_1, .string a0_2, .slice A0_3 l0_3.length c0_3, .slice A0_4 l0_4.length c0_4] 25)) (below_alloc (Below.refl _ _) (.cells #[.string b0, .int .i64 b1, .bool b2, .int .i64 b3, .bool b4] 48)))
  have r2 := (blk_new (w.alloc (.cells #[.int .i64 a0_0, .int .i64 a0_1, .string a0_2, .slice A0_3 l0_3.length c0_3, .slice A0_4 l0_4.length c0_4] 25)) (.cells #[.string b0, .int .i64 b1, .bool b2, .int .i64 b3, .bool b4] 48))
  rw [World.size_alloc] at r2
  have HR2 := Aside0.mk r2
  subst ho h2
  clear hG hr0_3 hr0_4 hc0_3 hc0_4 hBB r1 r2
  go_enter Try.func79, Try.ntmps79
  go_wp2_with (go_at_call 61; (with_reducible refine (tree_Get.calls k a0_0 a0_1 a0_2 _ _ l0_3 (fun k_ => k_ < w.heap.size) _ _ l0_4 b0 t1 t2 t3 t4 t5 _ _ ?side1 ?side2 ?side3 HG.out).mono ?_); (case side1 => exact H3.out); (case side2 => exact C3.out); (case side3 => exact Kd.V_mk C4.out H4.out); rintro e w8 ⟨v3, v4, rfl, ho0, ho1, hb⟩; obtain ⟨A3, c3, rfl⟩ := Kd.V_slice ho0; obtain ⟨A4, c4, rfl⟩ := Kd.V_slice ho1; have hs := (blk_below HR2.out hb); have s0 : w8.cell? ⟨w.heap.size + 1, 0, none⟩ = some (.string _) := (blk_cell hs 0).trans rfl; have s1 : w8.cell? ⟨w.heap.size + 1, 1, none⟩ = some (.int .i64 _) := (blk_cell hs 1).trans rfl; have s2 : w8.cell? ⟨w.heap.size + 1, 2, none⟩ = some (.bool _) := (blk_cell hs 2).trans rfl; have s3 : w8.cell? ⟨w.heap.size + 1, 3, none⟩ = some (.int .i64 _) := (blk_cell hs 3).trans rfl; have s4 : w8.cell? ⟨w.heap.size + 1, 4, none⟩ = some (.bool _) := (blk_cell hs 4).trans rfl; have hz8 : w.heap.size + 1 < w8.heap.size := blk_lt hs; have HB8 := Aside0.mk hb; have HS := Aside0.mk hs; clear ho0 ho1 hb hs)
  go_ret
  exact ⟨rfl, below_alloc (below_then HB0.out HB0.out.size HB8.out) _⟩
set_option maxHeartbeats 6400000 in
set_option maxRecDepth 100000 in
theorem one_ty (k : Nat) (a0_0 : Int) (a0_1 : Int) (a0_2 : ByteArray) (A0_3 : Option Addr) (c0_3 : Nat) (l0_3 : List ByteArray) (A0_4 : Option Addr) (c0_4 : Nat) (l0_4 : List S25) (b0 : ByteArray) (b1 : Int) (b2 : Bool) (b3 : Int) (b4 : Bool) (w : World) (hr0_3 : Kd.C Kd.string w A0_3 l0_3.length l0_3) (hc0_3 : l0_3.length ≤ c0_3) (hr0_4 : Kd.C k25 w A0_4 l0_4.length l0_4) (hc0_4 : l0_4.length ≤ c0_4)
    (t1 t2 : Int) (t3 : ByteArray) (t4 : List ByteArray) (t5 : List S25) (ok : Bool) (hG : tree_Get.f k a0_0 a0_1 a0_2 l0_3 l0_4 b0 = some (t1, t2, t3, t4, t5, ok)) (ho : ok = true) (h1 : b1 ≠ 0) (h2 : t1 ≠ b1) :
    Calls Try.prog 79 #[.agg #[.int .i64 a0_0, .int .i64 a0_1, .string a0_2, .slice A0_3 l0_3.length c0_3, .slice A0_4 l0_4.length c0_4], .agg #[.string b0, .int .i64 b1, .bool b2, .int .i64 b3, .bool b4]] w fun e w' => e = .returned (.int .i64 (16)) ∧ Below w.heap.size w w' := by
  have hu25 := Try.underlying25
  have hu48 := Try.underlying48
  have HG := Aside0.mk hG
  have hBB := below_alloc (below_alloc (Below.refl w.heap.size w) (.cells #[.int .i64 a0_0, .int .i64 a0_1, .string a0_2, .slice A0_3 l0_3.length c0_3, .slice A0_4 l0_4.length c0_4] 25)) (.cells #[.string b0, .int .i64 b1, .bool b2, .int .i64 b3, .bool b4] 48)
  have HB0 := Aside0.mk hBB
  have H3 := Aside0.mk (Kd.C_below hr0_3 hBB)
  have C3 := Aside0.mk hc0_3
  have C4 := Aside0.mk hc0_4
  have H4 := Aside0.mk (Kd.F_below (Kd.C_F k25_heap hr0_4) hBB)
  have r1 := (blk_below (blk_new w (.cells #[.int .i64 a0_0, .int .i64 a0_1, .string a0_2, .slice A0_3 l0_3.length c0_3, .slice A0_4 l0_4.length c0_4] 25)) (below_alloc (Below.refl _ _) (.cells #[.string b0, .int .i64 b1, .bool b2, .int .i64 b3, .bool b4] 48)))
  have r2 := (blk_new (w.alloc (.cells #[.int .i64 a0_0, .int .i64 a0_1, .string a0_2, .slice A0_3 l0_3.length c0_3, .slice A0_4 l0_4.length c0_4] 25)) (.cells #[.string b0, .int .i64 b1, .bool b2, .int .i64 b3, .bool b4] 48))
  rw [World.size_alloc] at r2
  have HR2 := Aside0.mk r2
  subst ho
  have h1b : (b1 != 0) = true := by simpa using h1
  have h2b : (t1 != b1) = true := by simpa using h2
  clear h1 h2
  clear hG hr0_3 hr0_4 hc0_3 hc0_4 hBB r1 r2
  go_enter Try.func79, Try.ntmps79
  go_wp2_with (go_at_call 61; (with_reducible refine (tree_Get.calls k a0_0 a0_1 a0_2 _ _ l0_3 (fun k_ => k_ < w.heap.size) _ _ l0_4 b0 t1 t2 t3 t4 t5 _ _ ?side1 ?side2 ?side3 HG.out).mono ?_); (case side1 => exact H3.out); (case side2 => exact C3.out); (case side3 => exact Kd.V_mk C4.out H4.out); rintro e w8 ⟨v3, v4, rfl, ho0, ho1, hb⟩; obtain ⟨A3, c3, rfl⟩ := Kd.V_slice ho0; obtain ⟨A4, c4, rfl⟩ := Kd.V_slice ho1; have hs := (blk_below HR2.out hb); have s0 : w8.cell? ⟨w.heap.size + 1, 0, none⟩ = some (.string _) := (blk_cell hs 0).trans rfl; have s1 : w8.cell? ⟨w.heap.size + 1, 1, none⟩ = some (.int .i64 _) := (blk_cell hs 1).trans rfl; have s2 : w8.cell? ⟨w.heap.size + 1, 2, none⟩ = some (.bool _) := (blk_cell hs 2).trans rfl; have s3 : w8.cell? ⟨w.heap.size + 1, 3, none⟩ = some (.int .i64 _) := (blk_cell hs 3).trans rfl; have s4 : w8.cell? ⟨w.heap.size + 1, 4, none⟩ = some (.bool _) := (blk_cell hs 4).trans rfl; have hz8 : w.heap.size + 1 < w8.heap.size := blk_lt hs; have HB8 := Aside0.mk hb; have HS := Aside0.mk hs; clear ho0 ho1 hb hs)
  go_ret
  exact ⟨rfl, below_alloc (below_then HB0.out HB0.out.size HB8.out) _⟩
set_option maxHeartbeats 6400000 in
set_option maxRecDepth 100000 in
theorem one_l4a (k : Nat) (a0_0 : Int) (a0_1 : Int) (a0_2 : ByteArray) (A0_3 : Option Addr) (c0_3 : Nat) (l0_3 : List ByteArray) (A0_4 : Option Addr) (c0_4 : Nat) (l0_4 : List S25) (b0 : ByteArray) (b1 : Int) (b2 : Bool) (b3 : Int) (b4 : Bool) (w : World) (hr0_3 : Kd.C Kd.string w A0_3 l0_3.length l0_3) (hc0_3 : l0_3.length ≤ c0_3) (hr0_4 : Kd.C k25 w A0_4 l0_4.length l0_4) (hc0_4 : l0_4.length ≤ c0_4)
    (t1 t2 : Int) (t3 : ByteArray) (t4 : List ByteArray) (t5 : List S25) (ok : Bool) (hG : tree_Get.f k a0_0 a0_1 a0_2 l0_3 l0_4 b0 = some (t1, t2, t3, t4, t5, ok)) (ho : ok = true) (hwf : (Lit.int .i64 t1).wf = true) (h1 : b1 = 0) (hk : t1 = 4) :
    Calls Try.prog 79 #[.agg #[.int .i64 a0_0, .int .i64 a0_1, .string a0_2, .slice A0_3 l0_3.length c0_3, .slice A0_4 l0_4.length c0_4], .agg #[.string b0, .int .i64 b1, .bool b2, .int .i64 b3, .bool b4]] w fun e w' => e = .returned (.int .i64 (if b3 > 0 then (if (t3.size : Int) > b3 then 4 else 0) else 0)) ∧ Below w.heap.size w w' := by
  have hu25 := Try.underlying25
  have hu48 := Try.underlying48
  have HG := Aside0.mk hG
  have hBB := below_alloc (below_alloc (Below.refl w.heap.size w) (.cells #[.int .i64 a0_0, .int .i64 a0_1, .string a0_2, .slice A0_3 l0_3.length c0_3, .slice A0_4 l0_4.length c0_4] 25)) (.cells #[.string b0, .int .i64 b1, .bool b2, .int .i64 b3, .bool b4] 48)
  have HB0 := Aside0.mk hBB
  have H3 := Aside0.mk (Kd.C_below hr0_3 hBB)
  have C3 := Aside0.mk hc0_3
  have C4 := Aside0.mk hc0_4
  have H4 := Aside0.mk (Kd.F_below (Kd.C_F k25_heap hr0_4) hBB)
  have r1 := (blk_below (blk_new w (.cells #[.int .i64 a0_0, .int .i64 a0_1, .string a0_2, .slice A0_3 l0_3.length c0_3, .slice A0_4 l0_4.length c0_4] 25)) (below_alloc (Below.refl _ _) (.cells #[.string b0, .int .i64 b1, .bool b2, .int .i64 b3, .bool b4] 48)))
  have r2 := (blk_new (w.alloc (.cells #[.int .i64 a0_0, .int .i64 a0_1, .string a0_2, .slice A0_3 l0_3.length c0_3, .slice A0_4 l0_4.length c0_4] 25)) (.cells #[.string b0, .int .i64 b1, .bool b2, .int .i64 b3, .bool b4] 48))
  rw [World.size_alloc] at r2
  have HR2 := Aside0.mk r2
  subst ho
  have h1b : (b1 != 0) = false := by simp [h1]
  clear h1
  have hlim : fnV (limI t1) = .func (.func 133) #[] #[] := by
    subst hk; rfl
  have HLIM := Aside0.mk hlim
  have HWF := Aside0.mk hwf
  have hfn : ∀ W : World, (binOp BinOp.neq 141 (.func (.func 133) #[] #[]) .nilFunc).run Try.prog W = .ok (.bool true) W := fun W => by kernel_rfl
  clear hlim hwf hk
  clear hG hr0_3 hr0_4 hc0_3 hc0_4 hBB r1 r2
  go_enter Try.func79, Try.ntmps79
  go_wp2_with (go_at_call 61; (with_reducible refine (tree_Get.calls k a0_0 a0_1 a0_2 _ _ l0_3 (fun k_ => k_ < w.heap.size) _ _ l0_4 b0 t1 t2 t3 t4 t5 _ _ ?side1 ?side2 ?side3 HG.out).mono ?_); (case side1 => exact H3.out); (case side2 => exact C3.out); (case side3 => exact Kd.V_mk C4.out H4.out); rintro e w8 ⟨v3, v4, rfl, ho0, ho1, hb⟩; obtain ⟨A3, c3, rfl⟩ := Kd.V_slice ho0; obtain ⟨A4, c4, rfl⟩ := Kd.V_slice ho1; have hs := (blk_below HR2.out hb); have s0 : w8.cell? ⟨w.heap.size + 1, 0, none⟩ = some (.string _) := (blk_cell hs 0).trans rfl; have s1 : w8.cell? ⟨w.heap.size + 1, 1, none⟩ = some (.int .i64 _) := (blk_cell hs 1).trans rfl; have s2 : w8.cell? ⟨w.heap.size + 1, 2, none⟩ = some (.bool _) := (blk_cell hs 2).trans rfl; have s3 : w8.cell? ⟨w.heap.size + 1, 3, none⟩ = some (.int .i64 _) := (blk_cell hs 3).trans rfl; have s4 : w8.cell? ⟨w.heap.size + 1, 4, none⟩ = some (.bool _) := (blk_cell hs 4).trans rfl; have hz8 : w.heap.size + 1 < w8.heap.size := blk_lt hs; have HB8 := Aside0.mk hb; have HS := Aside0.mk hs; clear ho0 ho1 hb hs)
  have hx := blk_new w8 (.cells #[.int .i64 t1, .int .i64 t2, .string t3, .slice A3 t4.length c3, .slice A4 t5.length c4] 25)
  have q0 : World.cell? _ ⟨w8.heap.size, 0, none⟩ = some (.int .i64 _) := (blk_cell hx 0).trans rfl
  have q1 : World.cell? _ ⟨w8.heap.size, 1, none⟩ = some (.int .i64 _) := (blk_cell hx 1).trans rfl
  have q2 : World.cell? _ ⟨w8.heap.size, 2, none⟩ = some (.string _) := (blk_cell hx 2).trans rfl
  have q3 : World.cell? _ ⟨w8.heap.size, 3, none⟩ = some (.slice _ _ _) := (blk_cell hx 3).trans rfl
  have q4 : World.cell? _ ⟨w8.heap.size, 4, none⟩ = some (.slice _ _ _) := (blk_cell hx 4).trans rfl
  have hBA := below_alloc (Below.refl w8.heap.size w8) (.cells #[.int .i64 t1, .int .i64 t2, .string t3, .slice A3 t4.length c3, .slice A4 t5.length c4] 25)
  have HBA := Aside0.mk hBA
  clear hx hBA
  go_region_with ((go_at_call 116; refine (field_limits.calls _).mono ?_; rintro e w9 ⟨mb, rfl, hown, hb9⟩; have hlk := lim_look hown HWF.out; rw [HLIM.out] at hlk; have hb9' := below_then (below_drew HBA.out) (below_drew HBA.out).size hb9; have s0 := pw_cell_below hb9' s0; have s1 := pw_cell_below hb9' s1; have s2 := pw_cell_below hb9' s2; have s3 := pw_cell_below hb9' s3; have s4 := pw_cell_below hb9' s4; have q0 := pw_cell_below hb9 q0; have q1 := pw_cell_below hb9 q1; have q2 := pw_cell_below hb9 q2; have q3 := pw_cell_below hb9 q3; have q4 := pw_cell_below hb9 q4; have HB9 := Aside0.mk hb9'; clear hown hb9 hb9'))
  all_goals go_wp2_with (go_at_call 133; refine (lim_fn2 b0 b1 b2 b3 b4 t1 t2 t3 A3 t4.length c3 A4 t5.length c4 _).mono ?_; rintro e w10 ⟨rfl, hb10⟩; have HB10 := Aside0.mk hb10; clear hb10)
  all_goals go_ret
  all_goals exact ⟨rfl, below_then HB0.out HB0.out.size (below_then HB8.out HB8.out.size (below_then HB9.out HB9.out.size HB10.out))⟩
set_option maxHeartbeats 6400000 in
set_option maxRecDepth 100000 in
theorem one_lma (k : Nat) (a0_0 : Int) (a0_1 : Int) (a0_2 : ByteArray) (A0_3 : Option Addr) (c0_3 : Nat) (l0_3 : List ByteArray) (A0_4 : Option Addr) (c0_4 : Nat) (l0_4 : List S25) (b0 : ByteArray) (b1 : Int) (b2 : Bool) (b3 : Int) (b4 : Bool) (w : World) (hr0_3 : Kd.C Kd.string w A0_3 l0_3.length l0_3) (hc0_3 : l0_3.length ≤ c0_3) (hr0_4 : Kd.C k25 w A0_4 l0_4.length l0_4) (hc0_4 : l0_4.length ≤ c0_4)
    (t1 t2 : Int) (t3 : ByteArray) (t4 : List ByteArray) (t5 : List S25) (ok : Bool) (hG : tree_Get.f k a0_0 a0_1 a0_2 l0_3 l0_4 b0 = some (t1, t2, t3, t4, t5, ok)) (ho : ok = true) (hwf : (Lit.int .i64 t1).wf = true) (h1 : b1 = 0) (hk : t1 = 5 ∨ t1 = 6) :
    Calls Try.prog 79 #[.agg #[.int .i64 a0_0, .int .i64 a0_1, .string a0_2, .slice A0_3 l0_3.length c0_3, .slice A0_4 l0_4.length c0_4], .agg #[.string b0, .int .i64 b1, .bool b2, .int .i64 b3, .bool b4]] w fun e w' => e = .returned (.int .i64 (if b3 > 0 then (if (t5.length : Int) > b3 then 18 else 0) else 0)) ∧ Below w.heap.size w w' := by
  have hu25 := Try.underlying25
  have hu48 := Try.underlying48
  have HG := Aside0.mk hG
  have hBB := below_alloc (below_alloc (Below.refl w.heap.size w) (.cells #[.int .i64 a0_0, .int .i64 a0_1, .string a0_2, .slice A0_3 l0_3.length c0_3, .slice A0_4 l0_4.length c0_4] 25)) (.cells #[.string b0, .int .i64 b1, .bool b2, .int .i64 b3, .bool b4] 48)
  have HB0 := Aside0.mk hBB
  have H3 := Aside0.mk (Kd.C_below hr0_3 hBB)
  have C3 := Aside0.mk hc0_3
  have C4 := Aside0.mk hc0_4
  have H4 := Aside0.mk (Kd.F_below (Kd.C_F k25_heap hr0_4) hBB)
  have r1 := (blk_below (blk_new w (.cells #[.int .i64 a0_0, .int .i64 a0_1, .string a0_2, .slice A0_3 l0_3.length c0_3, .slice A0_4 l0_4.length c0_4] 25)) (below_alloc (Below.refl _ _) (.cells #[.string b0, .int .i64 b1, .bool b2, .int .i64 b3, .bool b4] 48)))
  have r2 := (blk_new (w.alloc (.cells #[.int .i64 a0_0, .int .i64 a0_1, .string a0_2, .slice A0_3 l0_3.length c0_3, .slice A0_4 l0_4.length c0_4] 25)) (.cells #[.string b0, .int .i64 b1, .bool b2, .int .i64 b3, .bool b4] 48))
  rw [World.size_alloc] at r2
  have HR2 := Aside0.mk r2
  subst ho
  have h1b : (b1 != 0) = false := by simp [h1]
  clear h1
  have hlim : fnV (limI t1) = .func (.func 132) #[] #[] := by
    rcases hk with rfl | rfl <;> rfl
  have HLIM := Aside0.mk hlim
  have HWF := Aside0.mk hwf
  have hfn : ∀ W : World, (binOp BinOp.neq 141 (.func (.func 132) #[] #[]) .nilFunc).run Try.prog W = .ok (.bool true) W := fun W => by kernel_rfl
  clear hlim hwf hk
  clear hG hr0_3 hr0_4 hc0_3 hc0_4 hBB r1 r2
  go_enter Try.func79, Try.ntmps79
  go_wp2_with (go_at_call 61; (with_reducible refine (tree_Get.calls k a0_0 a0_1 a0_2 _ _ l0_3 (fun k_ => k_ < w.heap.size) _ _ l0_4 b0 t1 t2 t3 t4 t5 _ _ ?side1 ?side2 ?side3 HG.out).mono ?_); (case side1 => exact H3.out); (case side2 => exact C3.out); (case side3 => exact Kd.V_mk C4.out H4.out); rintro e w8 ⟨v3, v4, rfl, ho0, ho1, hb⟩; obtain ⟨A3, c3, rfl⟩ := Kd.V_slice ho0; obtain ⟨A4, c4, rfl⟩ := Kd.V_slice ho1; have hs := (blk_below HR2.out hb); have s0 : w8.cell? ⟨w.heap.size + 1, 0, none⟩ = some (.string _) := (blk_cell hs 0).trans rfl; have s1 : w8.cell? ⟨w.heap.size + 1, 1, none⟩ = some (.int .i64 _) := (blk_cell hs 1).trans rfl; have s2 : w8.cell? ⟨w.heap.size + 1, 2, none⟩ = some (.bool _) := (blk_cell hs 2).trans rfl; have s3 : w8.cell? ⟨w.heap.size + 1, 3, none⟩ = some (.int .i64 _) := (blk_cell hs 3).trans rfl; have s4 : w8.cell? ⟨w.heap.size + 1, 4, none⟩ = some (.bool _) := (blk_cell hs 4).trans rfl; have hz8 : w.heap.size + 1 < w8.heap.size := blk_lt hs; have HB8 := Aside0.mk hb; have HS := Aside0.mk hs; clear ho0 ho1 hb hs)
  have hx := blk_new w8 (.cells #[.int .i64 t1, .int .i64 t2, .string t3, .slice A3 t4.length c3, .slice A4 t5.length c4] 25)
  have q0 : World.cell? _ ⟨w8.heap.size, 0, none⟩ = some (.int .i64 _) := (blk_cell hx 0).trans rfl
  have q1 : World.cell? _ ⟨w8.heap.size, 1, none⟩ = some (.int .i64 _) := (blk_cell hx 1).trans rfl
  have q2 : World.cell? _ ⟨w8.heap.size, 2, none⟩ = some (.string _) := (blk_cell hx 2).trans rfl
  have q3 : World.cell? _ ⟨w8.heap.size, 3, none⟩ = some (.slice _ _ _) := (blk_cell hx 3).trans rfl
  have q4 : World.cell? _ ⟨w8.heap.size, 4, none⟩ = some (.slice _ _ _) := (blk_cell hx 4).trans rfl
  have hBA := below_alloc (Below.refl w8.heap.size w8) (.cells #[.int .i64 t1, .int .i64 t2, .string t3, .slice A3 t4.length c3, .slice A4 t5.length c4] 25)
  have HBA := Aside0.mk hBA
  clear hx hBA
  go_region_with ((go_at_call 116; refine (field_limits.calls _).mono ?_; rintro e w9 ⟨mb, rfl, hown, hb9⟩; have hlk := lim_look hown HWF.out; rw [HLIM.out] at hlk; have hb9' := below_then (below_drew HBA.out) (below_drew HBA.out).size hb9; have s0 := pw_cell_below hb9' s0; have s1 := pw_cell_below hb9' s1; have s2 := pw_cell_below hb9' s2; have s3 := pw_cell_below hb9' s3; have s4 := pw_cell_below hb9' s4; have q0 := pw_cell_below hb9 q0; have q1 := pw_cell_below hb9 q1; have q2 := pw_cell_below hb9 q2; have q3 := pw_cell_below hb9 q3; have q4 := pw_cell_below hb9 q4; have HB9 := Aside0.mk hb9'; clear hown hb9 hb9'))
  all_goals go_wp2_with (go_at_call 132; refine (lim_fn1 b0 b1 b2 b3 b4 t1 t2 t3 A3 t4.length c3 A4 t5.length c4 _).mono ?_; rintro e w10 ⟨rfl, hb10⟩; have HB10 := Aside0.mk hb10; clear hb10)
  all_goals go_ret
  all_goals exact ⟨rfl, below_then HB0.out HB0.out.size (below_then HB8.out HB8.out.size (below_then HB9.out HB9.out.size HB10.out))⟩
set_option maxHeartbeats 6400000 in
set_option maxRecDepth 100000 in
theorem one_l3a (k : Nat) (a0_0 : Int) (a0_1 : Int) (a0_2 : ByteArray) (A0_3 : Option Addr) (c0_3 : Nat) (l0_3 : List ByteArray) (A0_4 : Option Addr) (c0_4 : Nat) (l0_4 : List S25) (b0 : ByteArray) (b1 : Int) (b2 : Bool) (b3 : Int) (b4 : Bool) (w : World) (hr0_3 : Kd.C Kd.string w A0_3 l0_3.length l0_3) (hc0_3 : l0_3.length ≤ c0_3) (hr0_4 : Kd.C k25 w A0_4 l0_4.length l0_4) (hc0_4 : l0_4.length ≤ c0_4)
    (t1 t2 : Int) (t3 : ByteArray) (t4 : List ByteArray) (t5 : List S25) (ok : Bool) (hG : tree_Get.f k a0_0 a0_1 a0_2 l0_3 l0_4 b0 = some (t1, t2, t3, t4, t5, ok)) (ho : ok = true) (hwf : (Lit.int .i64 t1).wf = true) (h1 : b1 = 0) (hk : t1 = 3) :
    Calls Try.prog 79 #[.agg #[.int .i64 a0_0, .int .i64 a0_1, .string a0_2, .slice A0_3 l0_3.length c0_3, .slice A0_4 l0_4.length c0_4], .agg #[.string b0, .int .i64 b1, .bool b2, .int .i64 b3, .bool b4]] w fun e w' => e = .returned (.int .i64 (if b4 = true then (if t2 < 0 then 2 else 0) else 0)) ∧ Below w.heap.size w w' := by
  have hu25 := Try.underlying25
  have hu48 := Try.underlying48
  have HG := Aside0.mk hG
  have hBB := below_alloc (below_alloc (Below.refl w.heap.size w) (.cells #[.int .i64 a0_0, .int .i64 a0_1, .string a0_2, .slice A0_3 l0_3.length c0_3, .slice A0_4 l0_4.length c0_4] 25)) (.cells #[.string b0, .int .i64 b1, .bool b2, .int .i64 b3, .bool b4] 48)
  have HB0 := Aside0.mk hBB
  have H3 := Aside0.mk (Kd.C_below hr0_3 hBB)
  have C3 := Aside0.mk hc0_3
  have C4 := Aside0.mk hc0_4
  have H4 := Aside0.mk (Kd.F_below (Kd.C_F k25_heap hr0_4) hBB)
  have r1 := (blk_below (blk_new w (.cells #[.int .i64 a0_0, .int .i64 a0_1, .string a0_2, .slice A0_3 l0_3.length c0_3, .slice A0_4 l0_4.length c0_4] 25)) (below_alloc (Below.refl _ _) (.cells #[.string b0, .int .i64 b1, .bool b2, .int .i64 b3, .bool b4] 48)))
  have r2 := (blk_new (w.alloc (.cells #[.int .i64 a0_0, .int .i64 a0_1, .string a0_2, .slice A0_3 l0_3.length c0_3, .slice A0_4 l0_4.length c0_4] 25)) (.cells #[.string b0, .int .i64 b1, .bool b2, .int .i64 b3, .bool b4] 48))
  rw [World.size_alloc] at r2
  have HR2 := Aside0.mk r2
  subst ho
  have h1b : (b1 != 0) = false := by simp [h1]
  clear h1
  have hlim : fnV (limI t1) = .func (.func 134) #[] #[] := by
    subst hk; rfl
  have HLIM := Aside0.mk hlim
  have HWF := Aside0.mk hwf
  have hfn : ∀ W : World, (binOp BinOp.neq 141 (.func (.func 134) #[] #[]) .nilFunc).run Try.prog W = .ok (.bool true) W := fun W => by kernel_rfl
  clear hlim hwf hk
  clear hG hr0_3 hr0_4 hc0_3 hc0_4 hBB r1 r2
  go_enter Try.func79, Try.ntmps79
  go_wp2_with (go_at_call 61; (with_reducible refine (tree_Get.calls k a0_0 a0_1 a0_2 _ _ l0_3 (fun k_ => k_ < w.heap.size) _ _ l0_4 b0 t1 t2 t3 t4 t5 _ _ ?side1 ?side2 ?side3 HG.out).mono ?_); (case side1 => exact H3.out); (case side2 => exact C3.out); (case side3 => exact Kd.V_mk C4.out H4.out); rintro e w8 ⟨v3, v4, rfl, ho0, ho1, hb⟩; obtain ⟨A3, c3, rfl⟩ := Kd.V_slice ho0; obtain ⟨A4, c4, rfl⟩ := Kd.V_slice ho1; have hs := (blk_below HR2.out hb); have s0 : w8.cell? ⟨w.heap.size + 1, 0, none⟩ = some (.string _) := (blk_cell hs 0).trans rfl; have s1 : w8.cell? ⟨w.heap.size + 1, 1, none⟩ = some (.int .i64 _) := (blk_cell hs 1).trans rfl; have s2 : w8.cell? ⟨w.heap.size + 1, 2, none⟩ = some (.bool _) := (blk_cell hs 2).trans rfl; have s3 : w8.cell? ⟨w.heap.size + 1, 3, none⟩ = some (.int .i64 _) := (blk_cell hs 3).trans rfl; have s4 : w8.cell? ⟨w.heap.size + 1, 4, none⟩ = some (.bool _) := (blk_cell hs 4).trans rfl; have hz8 : w.heap.size + 1 < w8.heap.size := blk_lt hs; have HB8 := Aside0.mk hb; have HS := Aside0.mk hs; clear ho0 ho1 hb hs)
  have hx := blk_new w8 (.cells #[.int .i64 t1, .int .i64 t2, .string t3, .slice A3 t4.length c3, .slice A4 t5.length c4] 25)
  have q0 : World.cell? _ ⟨w8.heap.size, 0, none⟩ = some (.int .i64 _) := (blk_cell hx 0).trans rfl
  have q1 : World.cell? _ ⟨w8.heap.size, 1, none⟩ = some (.int .i64 _) := (blk_cell hx 1).trans rfl
  have q2 : World.cell? _ ⟨w8.heap.size, 2, none⟩ = some (.string _) := (blk_cell hx 2).trans rfl
  have q3 : World.cell? _ ⟨w8.heap.size, 3, none⟩ = some (.slice _ _ _) := (blk_cell hx 3).trans rfl
  have q4 : World.cell? _ ⟨w8.heap.size, 4, none⟩ = some (.slice _ _ _) := (blk_cell hx 4).trans rfl
  have hBA := below_alloc (Below.refl w8.heap.size w8) (.cells #[.int .i64 t1, .int .i64 t2, .string t3, .slice A3 t4.length c3, .slice A4 t5.length c4] 25)
  have HBA := Aside0.mk hBA
  clear hx hBA
  go_region_with ((go_at_call 116; refine (field_limits.calls _).mono ?_; rintro e w9 ⟨mb, rfl, hown, hb9⟩; have hlk := lim_look hown HWF.out; rw [HLIM.out] at hlk; have hb9' := below_then (below_drew HBA.out) (below_drew HBA.out).size hb9; have s0 := pw_cell_below hb9' s0; have s1 := pw_cell_below hb9' s1; have s2 := pw_cell_below hb9' s2; have s3 := pw_cell_below hb9' s3; have s4 := pw_cell_below hb9' s4; have q0 := pw_cell_below hb9 q0; have q1 := pw_cell_below hb9 q1; have q2 := pw_cell_below hb9 q2; have q3 := pw_cell_below hb9 q3; have q4 := pw_cell_below hb9 q4; have HB9 := Aside0.mk hb9'; clear hown hb9 hb9'))
  all_goals go_wp2_with (go_at_call 134; refine (lim_fn3 b0 b1 b2 b3 b4 t1 t2 t3 A3 t4.length c3 A4 t5.length c4 _).mono ?_; rintro e w10 ⟨rfl, hb10⟩; have HB10 := Aside0.mk hb10; clear hb10)
  all_goals go_ret
  all_goals exact ⟨rfl, below_then HB0.out HB0.out.size (below_then HB8.out HB8.out.size (below_then HB9.out HB9.out.size HB10.out))⟩
set_option maxHeartbeats 6400000 in
set_option maxRecDepth 100000 in
theorem one_loa (k : Nat) (a0_0 : Int) (a0_1 : Int) (a0_2 : ByteArray) (A0_3 : Option Addr) (c0_3 : Nat) (l0_3 : List ByteArray) (A0_4 : Option Addr) (c0_4 : Nat) (l0_4 : List S25) (b0 : ByteArray) (b1 : Int) (b2 : Bool) (b3 : Int) (b4 : Bool) (w : World) (hr0_3 : Kd.C Kd.string w A0_3 l0_3.length l0_3) (hc0_3 : l0_3.length ≤ c0_3) (hr0_4 : Kd.C k25 w A0_4 l0_4.length l0_4) (hc0_4 : l0_4.length ≤ c0_4)
    (t1 t2 : Int) (t3 : ByteArray) (t4 : List ByteArray) (t5 : List S25) (ok : Bool) (hG : tree_Get.f k a0_0 a0_1 a0_2 l0_3 l0_4 b0 = some (t1, t2, t3, t4, t5, ok)) (ho : ok = true) (hwf : (Lit.int .i64 t1).wf = true) (h1 : b1 = 0) (hk : t1 ≠ 4 ∧ t1 ≠ 5 ∧ t1 ≠ 6 ∧ t1 ≠ 3) :
    Calls Try.prog 79 #[.agg #[.int .i64 a0_0, .int .i64 a0_1, .string a0_2, .slice A0_3 l0_3.length c0_3, .slice A0_4 l0_4.length c0_4], .agg #[.string b0, .int .i64 b1, .bool b2, .int .i64 b3, .bool b4]] w fun e w' => e = .returned (.int .i64 (0)) ∧ Below w.heap.size w w' := by
  have hu25 := Try.underlying25
  have hu48 := Try.underlying48
  have HG := Aside0.mk hG
  have hBB := below_alloc (below_alloc (Below.refl w.heap.size w) (.cells #[.int .i64 a0_0, .int .i64 a0_1, .string a0_2, .slice A0_3 l0_3.length c0_3, .slice A0_4 l0_4.length c0_4] 25)) (.cells #[.string b0, .int .i64 b1, .bool b2, .int .i64 b3, .bool b4] 48)
  have HB0 := Aside0.mk hBB
  have H3 := Aside0.mk (Kd.C_below hr0_3 hBB)
  have C3 := Aside0.mk hc0_3
  have C4 := Aside0.mk hc0_4
  have H4 := Aside0.mk (Kd.F_below (Kd.C_F k25_heap hr0_4) hBB)
  have r1 := (blk_below (blk_new w (.cells #[.int .i64 a0_0, .int .i64 a0_1, .string a0_2, .slice A0_3 l0_3.length c0_3, .slice A0_4 l0_4.length c0_4] 25)) (below_alloc (Below.refl _ _) (.cells #[.string b0, .int .i64 b1, .bool b2, .int .i64 b3, .bool b4] 48)))
  have r2 := (blk_new (w.alloc (.cells #[.int .i64 a0_0, .int .i64 a0_1, .string a0_2, .slice A0_3 l0_3.length c0_3, .slice A0_4 l0_4.length c0_4] 25)) (.cells #[.string b0, .int .i64 b1, .bool b2, .int .i64 b3, .bool b4] 48))
  rw [World.size_alloc] at r2
  have HR2 := Aside0.mk r2
  subst ho
  have h1b : (b1 != 0) = false := by simp [h1]
  clear h1
  have hlim : fnV (limI t1) = .nilFunc := by
    unfold limI; rw [if_neg hk.1, if_neg hk.2.1, if_neg hk.2.2.1, if_neg hk.2.2.2]; rfl
  have HLIM := Aside0.mk hlim
  have HWF := Aside0.mk hwf
  have hfn : ∀ W : World, (binOp BinOp.neq 141 (.nilFunc) .nilFunc).run Try.prog W = .ok (.bool false) W := fun W => by kernel_rfl
  clear hlim hwf hk
  clear hG hr0_3 hr0_4 hc0_3 hc0_4 hBB r1 r2
  go_enter Try.func79, Try.ntmps79
  go_wp2_with (go_at_call 61; (with_reducible refine (tree_Get.calls k a0_0 a0_1 a0_2 _ _ l0_3 (fun k_ => k_ < w.heap.size) _ _ l0_4 b0 t1 t2 t3 t4 t5 _ _ ?side1 ?side2 ?side3 HG.out).mono ?_); (case side1 => exact H3.out); (case side2 => exact C3.out); (case side3 => exact Kd.V_mk C4.out H4.out); rintro e w8 ⟨v3, v4, rfl, ho0, ho1, hb⟩; obtain ⟨A3, c3, rfl⟩ := Kd.V_slice ho0; obtain ⟨A4, c4, rfl⟩ := Kd.V_slice ho1; have hs := (blk_below HR2.out hb); have s0 : w8.cell? ⟨w.heap.size + 1, 0, none⟩ = some (.string _) := (blk_cell hs 0).trans rfl; have s1 : w8.cell? ⟨w.heap.size + 1, 1, none⟩ = some (.int .i64 _) := (blk_cell hs 1).trans rfl; have s2 : w8.cell? ⟨w.heap.size + 1, 2, none⟩ = some (.bool _) := (blk_cell hs 2).trans rfl; have s3 : w8.cell? ⟨w.heap.size + 1, 3, none⟩ = some (.int .i64 _) := (blk_cell hs 3).trans rfl; have s4 : w8.cell? ⟨w.heap.size + 1, 4, none⟩ = some (.bool _) := (blk_cell hs 4).trans rfl; have hz8 : w.heap.size + 1 < w8.heap.size := blk_lt hs; have HB8 := Aside0.mk hb; have HS := Aside0.mk hs; clear ho0 ho1 hb hs)
  have hx := blk_new w8 (.cells #[.int .i64 t1, .int .i64 t2, .string t3, .slice A3 t4.length c3, .slice A4 t5.length c4] 25)
  have q0 : World.cell? _ ⟨w8.heap.size, 0, none⟩ = some (.int .i64 _) := (blk_cell hx 0).trans rfl
  have q1 : World.cell? _ ⟨w8.heap.size, 1, none⟩ = some (.int .i64 _) := (blk_cell hx 1).trans rfl
  have q2 : World.cell? _ ⟨w8.heap.size, 2, none⟩ = some (.string _) := (blk_cell hx 2).trans rfl
  have q3 : World.cell? _ ⟨w8.heap.size, 3, none⟩ = some (.slice _ _ _) := (blk_cell hx 3).trans rfl
  have q4 : World.cell? _ ⟨w8.heap.size, 4, none⟩ = some (.slice _ _ _) := (blk_cell hx 4).trans rfl
  have hBA := below_alloc (Below.refl w8.heap.size w8) (.cells #[.int .i64 t1, .int .i64 t2, .string t3, .slice A3 t4.length c3, .slice A4 t5.length c4] 25)
  have HBA := Aside0.mk hBA
  clear hx hBA
  go_region_with ((go_at_call 116; refine (field_limits.calls _).mono ?_; rintro e w9 ⟨mb, rfl, hown, hb9⟩; have hlk := lim_look hown HWF.out; rw [HLIM.out] at hlk; have hb9' := below_then (below_drew HBA.out) (below_drew HBA.out).size hb9; have s0 := pw_cell_below hb9' s0; have s1 := pw_cell_below hb9' s1; have s2 := pw_cell_below hb9' s2; have s3 := pw_cell_below hb9' s3; have s4 := pw_cell_below hb9' s4; have q0 := pw_cell_below hb9 q0; have q1 := pw_cell_below hb9 q1; have q2 := pw_cell_below hb9 q2; have q3 := pw_cell_below hb9 q3; have q4 := pw_cell_below hb9 q4; have HB9 := Aside0.mk hb9'; clear hown hb9 hb9'))
  all_goals go_wp2
  all_goals go_ret
  all_goals exact ⟨rfl, below_then HB0.out HB0.out.size (below_then HB8.out HB8.out.size HB9.out)⟩
set_option maxHeartbeats 6400000 in
set_option maxRecDepth 100000 in
theorem one_l4b (k : Nat) (a0_0 : Int) (a0_1 : Int) (a0_2 : ByteArray) (A0_3 : Option Addr) (c0_3 : Nat) (l0_3 : List ByteArray) (A0_4 : Option Addr) (c0_4 : Nat) (l0_4 : List S25) (b0 : ByteArray) (b1 : Int) (b2 : Bool) (b3 : Int) (b4 : Bool) (w : World) (hr0_3 : Kd.C Kd.string w A0_3 l0_3.length l0_3) (hc0_3 : l0_3.length ≤ c0_3) (hr0_4 : Kd.C k25 w A0_4 l0_4.length l0_4) (hc0_4 : l0_4.length ≤ c0_4)
    (t1 t2 : Int) (t3 : ByteArray) (t4 : List ByteArray) (t5 : List S25) (ok : Bool) (hG : tree_Get.f k a0_0 a0_1 a0_2 l0_3 l0_4 b0 = some (t1, t2, t3, t4, t5, ok)) (ho : ok = true) (hwf : (Lit.int .i64 t1).wf = true) (h1 : b1 ≠ 0) (h2 : t1 = b1) (hk : t1 = 4) :
    Calls Try.prog 79 #[.agg #[.int .i64 a0_0, .int .i64 a0_1, .string a0_2, .slice A0_3 l0_3.length c0_3, .slice A0_4 l0_4.length c0_4], .agg #[.string b0, .int .i64 b1, .bool b2, .int .i64 b3, .bool b4]] w fun e w' => e = .returned (.int .i64 (if b3 > 0 then (if (t3.size : Int) > b3 then 4 else 0) else 0)) ∧ Below w.heap.size w w' := by
  have hu25 := Try.underlying25
  have hu48 := Try.underlying48
  have HG := Aside0.mk hG
  have hBB := below_alloc (below_alloc (Below.refl w.heap.size w) (.cells #[.int .i64 a0_0, .int .i64 a0_1, .string a0_2, .slice A0_3 l0_3.length c0_3, .slice A0_4 l0_4.length c0_4] 25)) (.cells #[.string b0, .int .i64 b1, .bool b2, .int .i64 b3, .bool b4] 48)
  have HB0 := Aside0.mk hBB
  have H3 := Aside0.mk (Kd.C_below hr0_3 hBB)
  have C3 := Aside0.mk hc0_3
  have C4 := Aside0.mk hc0_4
  have H4 := Aside0.mk (Kd.F_below (Kd.C_F k25_heap hr0_4) hBB)
  have r1 := (blk_below (blk_new w (.cells #[.int .i64 a0_0, .int .i64 a0_1, .string a0_2, .slice A0_3 l0_3.length c0_3, .slice A0_4 l0_4.length c0_4] 25)) (below_alloc (Below.refl _ _) (.cells #[.string b0, .int .i64 b1, .bool b2, .int .i64 b3, .bool b4] 48)))
  have r2 := (blk_new (w.alloc (.cells #[.int .i64 a0_0, .int .i64 a0_1, .string a0_2, .slice A0_3 l0_3.length c0_3, .slice A0_4 l0_4.length c0_4] 25)) (.cells #[.string b0, .int .i64 b1, .bool b2, .int .i64 b3, .bool b4] 48))
  rw [World.size_alloc] at r2
  have HR2 := Aside0.mk r2
  subst ho
  have h1b : (b1 != 0) = true := by simpa using h1
  have h2b : (t1 != b1) = false := by simpa using h2
  clear h1 h2
  have hlim : fnV (limI t1) = .func (.func 133) #[] #[] := by
    subst hk; rfl
  have HLIM := Aside0.mk hlim
  have HWF := Aside0.mk hwf
  have hfn : ∀ W : World, (binOp BinOp.neq 141 (.func (.func 133) #[] #[]) .nilFunc).run Try.prog W = .ok (.bool true) W := fun W => by kernel_rfl
  clear hlim hwf hk
  clear hG hr0_3 hr0_4 hc0_3 hc0_4 hBB r1 r2
  go_enter Try.func79, Try.ntmps79
  go_wp2_with (go_at_call 61; (with_reducible refine (tree_Get.calls k a0_0 a0_1 a0_2 _ _ l0_3 (fun k_ => k_ < w.heap.size) _ _ l0_4 b0 t1 t2 t3 t4 t5 _ _ ?side1 ?side2 ?side3 HG.out).mono ?_); (case side1 => exact H3.out); (case side2 => exact C3.out); (case side3 => exact Kd.V_mk C4.out H4.out); rintro e w8 ⟨v3, v4, rfl, ho0, ho1, hb⟩; obtain ⟨A3, c3, rfl⟩ := Kd.V_slice ho0; obtain ⟨A4, c4, rfl⟩ := Kd.V_slice ho1; have hs := (blk_below HR2.out hb); have s0 : w8.cell? ⟨w.heap.size + 1, 0, none⟩ = some (.string _) := (blk_cell hs 0).trans rfl; have s1 : w8.cell? ⟨w.heap.size + 1, 1, none⟩ = some (.int .i64 _) := (blk_cell hs 1).trans rfl; have s2 : w8.cell? ⟨w.heap.size + 1, 2, none⟩ = some (.bool _) := (blk_cell hs 2).trans rfl; have s3 : w8.cell? ⟨w.heap.size + 1, 3, none⟩ = some (.int .i64 _) := (blk_cell hs 3).trans rfl; have s4 : w8.cell? ⟨w.heap.size + 1, 4, none⟩ = some (.bool _) := (blk_cell hs 4).trans rfl; have hz8 : w.heap.size + 1 < w8.heap.size := blk_lt hs; have HB8 := Aside0.mk hb; have HS := Aside0.mk hs; clear ho0 ho1 hb hs)
  have hx := blk_new w8 (.cells #[.int .i64 t1, .int .i64 t2, .string t3, .slice A3 t4.length c3, .slice A4 t5.length c4] 25)
  have q0 : World.cell? _ ⟨w8.heap.size, 0, none⟩ = some (.int .i64 _) := (blk_cell hx 0).trans rfl
  have q1 : World.cell? _ ⟨w8.heap.size, 1, none⟩ = some (.int .i64 _) := (blk_cell hx 1).trans rfl
  have q2 : World.cell? _ ⟨w8.heap.size, 2, none⟩ = some (.string _) := (blk_cell hx 2).trans rfl
  have q3 : World.cell? _ ⟨w8.heap.size, 3, none⟩ = some (.slice _ _ _) := (blk_cell hx 3).trans rfl
  have q4 : World.cell? _ ⟨w8.heap.size, 4, none⟩ = some (.slice _ _ _) := (blk_cell hx 4).trans rfl
  have hBA := below_alloc (Below.refl w8.heap.size w8) (.cells #[.int .i64 t1, .int .i64 t2, .string t3, .slice A3 t4.length c3, .slice A4 t5.length c4] 25)
  have HBA := Aside0.mk hBA
  clear hx hBA
  go_region_with ((go_at_call 116; refine (field_limits.calls _).mono ?_; rintro e w9 ⟨mb, rfl, hown, hb9⟩; have hlk := lim_look hown HWF.out; rw [HLIM.out] at hlk; have hb9' := below_then (below_drew HBA.out) (below_drew HBA.out).size hb9; have s0 := pw_cell_below hb9' s0; have s1 := pw_cell_below hb9' s1; have s2 := pw_cell_below hb9' s2; have s3 := pw_cell_below hb9' s3; have s4 := pw_cell_below hb9' s4; have q0 := pw_cell_below hb9 q0; have q1 := pw_cell_below hb9 q1; have q2 := pw_cell_below hb9 q2; have q3 := pw_cell_below hb9 q3; have q4 := pw_cell_below hb9 q4; have HB9 := Aside0.mk hb9'; clear hown hb9 hb9'))
  all_goals go_wp2_with (go_at_call 133; refine (lim_fn2 b0 b1 b2 b3 b4 t1 t2 t3 A3 t4.length c3 A4 t5.length c4 _).mono ?_; rintro e w10 ⟨rfl, hb10⟩; have HB10 := Aside0.mk hb10; clear hb10)
  all_goals go_ret
  all_goals exact ⟨rfl, below_then HB0.out HB0.out.size (below_then HB8.out HB8.out.size (below_then HB9.out HB9.out.size HB10.out))⟩
set_option maxHeartbeats 6400000 in
set_option maxRecDepth 100000 in
theorem one_lmb (k : Nat) (a0_0 : Int) (a0_1 : Int) (a0_2 : ByteArray) (A0_3 : Option Addr) (c0_3 : Nat) (l0_3 : List ByteArray) (A0_4 : Option Addr) (c0_4 : Nat) (l0_4 : List S25) (b0 : ByteArray) (b1 : Int) (b2 : Bool) (b3 : Int) (b4 : Bool) (w : World) (hr0_3 : Kd.C Kd.string w A0_3 l0_3.length l0_3) (hc0_3 : l0_3.length ≤ c0_3) (hr0_4 : Kd.C k25 w A0_4 l0_4.length l0_4) (hc0_4 : l0_4.length ≤ c0_4)
    (t1 t2 : Int) (t3 : ByteArray) (t4 : List ByteArray) (t5 : List S25) (ok : Bool) (hG : tree_Get.f k a0_0 a0_1 a0_2 l0_3 l0_4 b0 = some (t1, t2, t3, t4, t5, ok)) (ho : ok = true) (hwf : (Lit.int .i64 t1).wf = true) (h1 : b1 ≠ 0) (h2 : t1 = b1) (hk : t1 = 5 ∨ t1 = 6) :
    Calls Try.prog 79 #[.agg #[.int .i64 a0_0, .int .i64 a0_1, .string a0_2, .slice A0_3 l0_3.length c0_3, .slice A0_4 l0_4.length c0_4], .agg #[.string b0, .int .i64 b1, .bool b2, .int .i64 b3, .bool b4]] w fun e w' => e = .returned (.int .i64 (if b3 > 0 then (if (t5.length : Int) > b3 then 18 else 0) else 0)) ∧ Below w.heap.size w w' := by
  have hu25 := Try.underlying25
  have hu48 := Try.underlying48
  have HG := Aside0.mk hG
  have hBB := below_alloc (below_alloc (Below.refl w.heap.size w) (.cells #[.int .i64 a0_0, .int .i64 a0_1, .string a0_2, .slice A0_3 l0_3.length c0_3, .slice A0_4 l0_4.length c0_4] 25)) (.cells #[.string b0, .int .i64 b1, .bool b2, .int .i64 b3, .bool b4] 48)
  have HB0 := Aside0.mk hBB
  have H3 := Aside0.mk (Kd.C_below hr0_3 hBB)
  have C3 := Aside0.mk hc0_3
  have C4 := Aside0.mk hc0_4
  have H4 := Aside0.mk (Kd.F_below (Kd.C_F k25_heap hr0_4) hBB)
  have r1 := (blk_below (blk_new w (.cells #[.int .i64 a0_0, .int .i64 a0_1, .string a0_2, .slice A0_3 l0_3.length c0_3, .slice A0_4 l0_4.length c0_4] 25)) (below_alloc (Below.refl _ _) (.cells #[.string b0, .int .i64 b1, .bool b2, .int .i64 b3, .bool b4] 48)))
  have r2 := (blk_new (w.alloc (.cells #[.int .i64 a0_0, .int .i64 a0_1, .string a0_2, .slice A0_3 l0_3.length c0_3, .slice A0_4 l0_4.length c0_4] 25)) (.cells #[.string b0, .int .i64 b1, .bool b2, .int .i64 b3, .bool b4] 48))
  rw [World.size_alloc] at r2
  have HR2 := Aside0.mk r2
  subst ho
  have h1b : (b1 != 0) = true := by simpa using h1
  have h2b : (t1 != b1) = false := by simpa using h2
  clear h1 h2
  have hlim : fnV (limI t1) = .func (.func 132) #[] #[] := by
    rcases hk with rfl | rfl <;> rfl
  have HLIM := Aside0.mk hlim
  have HWF := Aside0.mk hwf
  have hfn : ∀ W : World, (binOp BinOp.neq 141 (.func (.func 132) #[] #[]) .nilFunc).run Try.prog W = .ok (.bool true) W := fun W => by kernel_rfl
  clear hlim hwf hk
  clear hG hr0_3 hr0_4 hc0_3 hc0_4 hBB r1 r2
  go_enter Try.func79, Try.ntmps79
  go_wp2_with (go_at_call 61; (with_reducible refine (tree_Get.calls k a0_0 a0_1 a0_2 _ _ l0_3 (fun k_ => k_ < w.heap.size) _ _ l0_4 b0 t1 t2 t3 t4 t5 _ _ ?side1 ?side2 ?side3 HG.out).mono ?_); (case side1 => exact H3.out); (case side2 => exact C3.out); (case side3 => exact Kd.V_mk C4.out H4.out); rintro e w8 ⟨v3, v4, rfl, ho0, ho1, hb⟩; obtain ⟨A3, c3, rfl⟩ := Kd.V_slice ho0; obtain ⟨A4, c4, rfl⟩ := Kd.V_slice ho1; have hs := (blk_below HR2.out hb); have s0 : w8.cell? ⟨w.heap.size + 1, 0, none⟩ = some (.string _) := (blk_cell hs 0).trans rfl; have s1 : w8.cell? ⟨w.heap.size + 1, 1, none⟩ = some (.int .i64 _) := (blk_cell hs 1).trans rfl; have s2 : w8.cell? ⟨w.heap.size + 1, 2, none⟩ = some (.bool _) := (blk_cell hs 2).trans rfl; have s3 : w8.cell? ⟨w.heap.size + 1, 3, none⟩ = some (.int .i64 _) := (blk_cell hs 3).trans rfl; have s4 : w8.cell? ⟨w.heap.size + 1, 4, none⟩ = some (.bool _) := (blk_cell hs 4).trans rfl; have hz8 : w.heap.size + 1 < w8.heap.size := blk_lt hs; have HB8 := Aside0.mk hb; have HS := Aside0.mk hs; clear ho0 ho1 hb hs)
  have hx := blk_new w8 (.cells #[.int .i64 t1, .int .i64 t2, .string t3, .slice A3 t4.length c3, .slice A4 t5.length c4] 25)
  have q0 : World.cell? _ ⟨w8.heap.size, 0, none⟩ = some (.int .i64 _) := (blk_cell hx 0).trans rfl
  have q1 : World.cell? _ ⟨w8.heap.size, 1, none⟩ = some (.int .i64 _) := (blk_cell hx 1).trans rfl
  have q2 : World.cell? _ ⟨w8.heap.size, 2, none⟩ = some (.string _) := (blk_cell hx 2).trans rfl
  have q3 : World.cell? _ ⟨w8.heap.size, 3, none⟩ = some (.slice _ _ _) := (blk_cell hx 3).trans rfl
  have q4 : World.cell? _ ⟨w8.heap.size, 4, none⟩ = some (.slice _ _ _) := (blk_cell hx 4).trans rfl
  have hBA := below_alloc (Below.refl w8.heap.size w8) (.cells #[.int .i64 t1, .int .i64 t2, .string t3, .slice A3 t4.length c3, .slice A4 t5.length c4] 25)
  have HBA := Aside0.mk hBA
  clear hx hBA
  go_region_with ((go_at_call 116; refine (field_limits.calls _).mono ?_; rintro e w9 ⟨mb, rfl, hown, hb9⟩; have hlk := lim_look hown HWF.out; rw [HLIM.out] at hlk; have hb9' := below_then (below_drew HBA.out) (below_drew HBA.out).size hb9; have s0 := pw_cell_below hb9' s0; have s1 := pw_cell_below hb9' s1; have s2 := pw_cell_below hb9' s2; have s3 := pw_cell_below hb9' s3; have s4 := pw_cell_below hb9' s4; have q0 := pw_cell_below hb9 q0; have q1 := pw_cell_below hb9 q1; have q2 := pw_cell_below hb9 q2; have q3 := pw_cell_below hb9 q3; have q4 := pw_cell_below hb9 q4; have HB9 := Aside0.mk hb9'; clear hown hb9 hb9'))
  all_goals go_wp2_with (go_at_call 132; refine (lim_fn1 b0 b1 b2 b3 b4 t1 t2 t3 A3 t4.length c3 A4 t5.length c4 _).mono ?_; rintro e w10 ⟨rfl, hb10⟩; have HB10 := Aside0.mk hb10; clear hb10)
  all_goals go_ret
  all_goals exact ⟨rfl, below_then HB0.out HB0.out.size (below_then HB8.out HB8.out.size (below_then HB9.out HB9.out.size HB10.out))⟩
set_option maxHeartbeats 6400000 in
set_option maxRecDepth 100000 in
theorem one_l3b (k : Nat) (a0_0 : Int) (a0_1 : Int) (a0_2 : ByteArray) (A0_3 : Option Addr) (c0_3 : Nat) (l0_3 : List ByteArray) (A0_4 : Option Addr) (c0_4 : Nat) (l0_4 : List S25) (b0 : ByteArray) (b1 : Int) (b2 : Bool) (b3 : Int) (b4 : Bool) (w : World) (hr0_3 : Kd.C Kd.string w A0_3 l0_3.length l0_3) (hc0_3 : l0_3.length ≤ c0_3) (hr0_4 : Kd.C k25 w A0_4 l0_4.length l0_4) (hc0_4 : l0_4.length ≤ c0_4)
    (t1 t2 : Int) (t3 : ByteArray) (t4 : List ByteArray) (t5 : List S25) (ok : Bool) (hG : tree_Get.f k a0_0 a0_1 a0_2 l0_3 l0_4 b0 = some (t1, t2, t3, t4, t5, ok)) (ho : ok = true) (hwf : (Lit.int .i64 t1).wf = true) (h1 : b1 ≠ 0) (h2 : t1 = b1) (hk : t1 = 3) :
    Calls Try.prog 79 #[.agg #[.int .i64 a0_0, .int .i64 a0_1, .string a0_2, .slice A0_3 l0_3.length c0_3, .slice A0_4 l0_4.length c0_4], .agg #[.string b0, .int .i64 b1, .bool b2, .int .i64 b3, .bool b4]] w fun e w' => e = .returned (.int .i64 (if b4 = true then (if t2 < 0 then 2 else 0) else 0)) ∧ Below w.heap.size w w' := by
  have hu25 := Try.underlying25
  have hu48 := Try.underlying48
  have HG := Aside0.mk hG
  have hBB := below_alloc (below_alloc (Below.refl w.heap.size w) (.cells #[.int .i64 a0_0, .int .i64 a0_1, .string a0_2, .slice A0_3 l0_3.length c0_3, .slice A0_4 l0_4.length c0_4] 25)) (.cells #[.string b0, .int .i64 b1, .bool b2, .int .i64 b3, .bool b4] 48)
  have HB0 := Aside0.mk hBB
  have H3 := Aside0.mk (Kd.C_below hr0_3 hBB)
  have C3 := Aside0.mk hc0_3
  have C4 := Aside0.mk hc0_4
  have H4 := Aside0.mk (Kd.F_below (Kd.C_F k25_heap hr0_4) hBB)
  have r1 := (blk_below (blk_new w (.cells #[.int .i64 a0_0, .int .i64 a0_1, .string a0_2, .slice A0_3 l0_3.length c0_3, .slice A0_4 l0_4.length c0_4] 25)) (below_alloc (Below.refl _ _) (.cells #[.string b0, .int .i64 b1, .bool b2, .int .i64 b3, .bool b4] 48)))
  have r2 := (blk_new (w.alloc (.cells #[.int .i64 a0_0, .int .i64 a0_1, .string a0_2, .slice A0_3 l0_3.length c0_3, .slice A0_4 l0_4.length c0_4] 25)) (.cells #[.string b0, .int .i64 b1, .bool b2, .int .i64 b3, .bool b4] 48))
  rw [World.size_alloc] at r2
  have HR2 := Aside0.mk r2
  subst ho
  have h1b : (b1 != 0) = true := by simpa using h1
  have h2b : (t1 != b1) = false := by simpa using h2
  clear h1 h2
  have hlim : fnV (limI t1) = .func (.func 134) #[] #[] := by
    subst hk; rfl
  have HLIM := Aside0.mk hlim
  have HWF := Aside0.mk hwf
  have hfn : ∀ W : World, (binOp BinOp.neq 141 (.func (.func 134) #[] #[]) .nilFunc).run Try.prog W = .ok (.bool true) W := fun W => by kernel_rfl
  clear hlim hwf hk
  clear hG hr0_3 hr0_4 hc0_3 hc0_4 hBB r1 r2
  go_enter Try.func79, Try.ntmps79
  go_wp2_with (go_at_call 61; (with_reducible refine (tree_Get.calls k a0_0 a0_1 a0_2 _ _ l0_3 (fun k_ => k_ < w.heap.size) _ _ l0_4 b0 t1 t2 t3 t4 t5 _ _ ?side1 ?side2 ?side3 HG.out).mono ?_); (case side1 => exact H3.out); (case side2 => exact C3.out); (case side3 => exact Kd.V_mk C4.out H4.out); rintro e w8 ⟨v3, v4, rfl, ho0, ho1, hb⟩; obtain ⟨A3, c3, rfl⟩ := Kd.V_slice ho0; obtain ⟨A4, c4, rfl⟩ := Kd.V_slice ho1; have hs := (blk_below HR2.out hb); have s0 : w8.cell? ⟨w.heap.size + 1, 0, none⟩ = some (.string _) := (blk_cell hs 0).trans rfl; have s1 : w8.cell? ⟨w.heap.size + 1, 1, none⟩ = some (.int .i64 _) := (blk_cell hs 1).trans rfl; have s2 : w8.cell? ⟨w.heap.size + 1, 2, none⟩ = some (.bool _) := (blk_cell hs 2).trans rfl; have s3 : w8.cell? ⟨w.heap.size + 1, 3, none⟩ = some (.int .i64 _) := (blk_cell hs 3).trans rfl; have s4 : w8.cell? ⟨w.heap.size + 1, 4, none⟩ = some (.bool _) := (blk_cell hs 4).trans rfl; have hz8 : w.heap.size + 1 < w8.heap.size := blk_lt hs; have HB8 := Aside0.mk hb; have HS := Aside0.mk hs; clear ho0 ho1 hb hs)
  have hx := blk_new w8 (.cells #[.int .i64 t1, .int .i64 t2, .string t3, .slice A3 t4.length c3, .slice A4 t5.length c4] 25)
  have q0 : World.cell? _ ⟨w8.heap.size, 0, none⟩ = some (.int .i64 _) := (blk_cell hx 0).trans rfl
  have q1 : World.cell? _ ⟨w8.heap.size, 1, none⟩ = some (.int .i64 _) := (blk_cell hx 1).trans rfl
  have q2 : World.cell? _ ⟨w8.heap.size, 2, none⟩ = some (.string _) := (blk_cell hx 2).trans rfl
  have q3 : World.cell? _ ⟨w8.heap.size, 3, none⟩ = some (.slice _ _ _) := (blk_cell hx 3).trans rfl
  have q4 : World.cell? _ ⟨w8.heap.size, 4, none⟩ = some (.slice _ _ _) := (blk_cell hx 4).trans rfl
  have hBA := below_alloc (Below.refl w8.heap.size w8) (.cells #[.int .i64 t1, .int .i64 t2, .string t3, .slice A3 t4.length c3, .slice A4 t5.length c4] 25)
  have HBA := Aside0.mk hBA
  clear hx hBA
  go_region_with ((go_at_call 116; refine (field_limits.calls _).mono ?_; rintro e w9 ⟨mb, rfl, hown, hb9⟩; have hlk := lim_look hown HWF.out; rw [HLIM.out] at hlk; have hb9' := below_then (below_drew HBA.out) (below_drew HBA.out).size hb9; have s0 := pw_cell_below hb9' s0; have s1 := pw_cell_below hb9' s1; have s2 := pw_cell_below hb9' s2; have s3 := pw_cell_below hb9' s3; have s4 := pw_cell_below hb9' s4; have q0 := pw_cell_below hb9 q0; have q1 := pw_cell_below hb9 q1; have q2 := pw_cell_below hb9 q2; have q3 := pw_cell_below hb9 q3; have q4 := pw_cell_below hb9 q4; have HB9 := Aside0.mk hb9'; clear hown hb9 hb9'))
  all_goals go_wp2_with (go_at_call 134; refine (lim_fn3 b0 b1 b2 b3 b4 t1 t2 t3 A3 t4.length c3 A4 t5.length c4 _).mono ?_; rintro e w10 ⟨rfl, hb10⟩; have HB10 := Aside0.mk hb10; clear hb10)
  all_goals go_ret
  all_goals exact ⟨rfl, below_then HB0.out HB0.out.size (below_then HB8.out HB8.out.size (below_then HB9.out HB9.out.size HB10.out))⟩
set_option maxHeartbeats 6400000 in
set_option maxRecDepth 100000 in
theorem one_lob (k : Nat) (a0_0 : Int) (a0_1 : Int) (a0_2 : ByteArray) (A0_3 : Option Addr) (c0_3 : Nat) (l0_3 : List ByteArray) (A0_4 : Option Addr) (c0_4 : Nat) (l0_4 : List S25) (b0 : ByteArray) (b1 : Int) (b2 : Bool) (b3 : Int) (b4 : Bool) (w : World) (hr0_3 : Kd.C Kd.string w A0_3 l0_3.length l0_3) (hc0_3 : l0_3.length ≤ c0_3) (hr0_4 : Kd.C k25 w A0_4 l0_4.length l0_4) (hc0_4 : l0_4.length ≤ c0_4)
    (t1 t2 : Int) (t3 : ByteArray) (t4 : List ByteArray) (t5 : List S25) (ok : Bool) (hG : tree_Get.f k a0_0 a0_1 a0_2 l0_3 l0_4 b0 = some (t1, t2, t3, t4, t5, ok)) (ho : ok = true) (hwf : (Lit.int .i64 t1).wf = true) (h1 : b1 ≠ 0) (h2 : t1 = b1) (hk : t1 ≠ 4 ∧ t1 ≠ 5 ∧ t1 ≠ 6 ∧ t1 ≠ 3) :
    Calls Try.prog 79 #[.agg #[.int .i64 a0_0, .int .i64 a0_1, .string a0_2, .slice A0_3 l0_3.length c0_3, .slice A0_4 l0_4.length c0_4], .agg #[.string b0, .int .i64 b1, .bool b2, .int .i64 b3, .bool b4]] w fun e w' => e = .returned (.int .i64 (0)) ∧ Below w.heap.size w w' := by
  have hu25 := Try.underlying25
  have hu48 := Try.underlying48
  have HG := Aside0.mk hG
  have hBB := below_alloc (below_alloc (Below.refl w.heap.size w) (.cells #[.int .i64 a0_0, .int .i64 a0_1, .string a0_2, .slice A0_3 l0_3.length c0_3, .slice A0_4 l0_4.length c0_4] 25)) (.cells #[.string b0, .int .i64 b1, .bool b2, .int .i64 b3, .bool b4] 48)
  have HB0 := Aside0.mk hBB
  have H3 := Aside0.mk (Kd.C_below hr0_3 hBB)
  have C3 := Aside0.mk hc0_3
  have C4 := Aside0.mk hc0_4
  have H4 := Aside0.mk (Kd.F_below (Kd.C_F k25_heap hr0_4) hBB)
  have r1 := (blk_below (blk_new w (.cells #[.int .i64 a0_0, .int .i64 a0_1, .string a0_2, .slice A0_3 l0_3.length c0_3, .slice A0_4 l0_4.length c0_4] 25)) (below_alloc (Below.refl _ _) (.cells #[.string b0, .int .i64 b1, .bool b2, .int .i64 b3, .bool b4] 48)))
  have r2 := (blk_new (w.alloc (.cells #[.int .i64 a0_0, .int .i64 a0_1, .string a0_2, .slice A0_3 l0_3.length c0_3, .slice A0_4 l0_4.length c0_4] 25)) (.cells #[.string b0, .int .i64 b1, .bool b2, .int .i64 b3, .bool b4] 48))
  rw [World.size_alloc] at r2
  have HR2 := Aside0.mk r2
  subst ho
  have h1b : (b1 != 0) = true := by simpa using h1
  have h2b : (t1 != b1) = false := by simpa using h2
  clear h1 h2
  have hlim : fnV (limI t1) = .nilFunc := by
    unfold limI; rw [if_neg hk.1, if_neg hk.2.1, if_neg hk.2.2.1, if_neg hk.2.2.2]; rfl
  have HLIM := Aside0.mk hlim
  have HWF := Aside0.mk hwf
  have hfn : ∀ W : World, (binOp BinOp.neq 141 (.nilFunc) .nilFunc).run Try.prog W = .ok (.bool false) W := fun W => by kernel_rfl
  clear hlim hwf hk
  clear hG hr0_3 hr0_4 hc0_3 hc0_4 hBB r1 r2
  go_enter Try.func79, Try.ntmps79
  go_wp2_with (go_at_call 61; (with_reducible refine (tree_Get.calls k a0_0 a0_1 a0_2 _ _ l0_3 (fun k_ => k_ < w.heap.size) _ _ l0_4 b0 t1 t2 t3 t4 t5 _ _ ?side1 ?side2 ?side3 HG.out).mono ?_); (case side1 => exact H3.out); (case side2 => exact C3.out); (case side3 => exact Kd.V_mk C4.out H4.out); rintro e w8 ⟨v3, v4, rfl, ho0, ho1, hb⟩; obtain ⟨A3, c3, rfl⟩ := Kd.V_slice ho0; obtain ⟨A4, c4, rfl⟩ := Kd.V_slice ho1; have hs := (blk_below HR2.out hb); have s0 : w8.cell? ⟨w.heap.size + 1, 0, none⟩ = some (.string _) := (blk_cell hs 0).trans rfl; have s1 : w8.cell? ⟨w.heap.size + 1, 1, none⟩ = some (.int .i64 _) := (blk_cell hs 1).trans rfl; have s2 : w8.cell? ⟨w.heap.size + 1, 2, none⟩ = some (.bool _) := (blk_cell hs 2).trans rfl; have s3 : w8.cell? ⟨w.heap.size + 1, 3, none⟩ = some (.int .i64 _) := (blk_cell hs 3).trans rfl; have s4 : w8.cell? ⟨w.heap.size + 1, 4, none⟩ = some (.bool _) := (blk_cell hs 4).trans rfl; have hz8 : w.heap.size + 1 < w8.heap.size := blk_lt hs; have HB8 := Aside0.mk hb; have HS := Aside0.mk hs; clear ho0 ho1 hb hs)
  have hx := blk_new w8 (.cells #[.int .i64 t1, .int .i64 t2, .string t3, .slice A3 t4.length c3, .slice A4 t5.length c4] 25)
  have q0 : World.cell? _ ⟨w8.heap.size, 0, none⟩ = some (.int .i64 _) := (blk_cell hx 0).trans rfl
  have q1 : World.cell? _ ⟨w8.heap.size, 1, none⟩ = some (.int .i64 _) := (blk_cell hx 1).trans rfl
  have q2 : World.cell? _ ⟨w8.heap.size, 2, none⟩ = some (.string _) := (blk_cell hx 2).trans rfl
  have q3 : World.cell? _ ⟨w8.heap.size, 3, none⟩ = some (.slice _ _ _) := (blk_cell hx 3).trans rfl
  have q4 : World.cell? _ ⟨w8.heap.size, 4, none⟩ = some (.slice _ _ _) := (blk_cell hx 4).trans rfl
  have hBA := below_alloc (Below.refl w8.heap.size w8) (.cells #[.int .i64 t1, .int .i64 t2, .string t3, .slice A3 t4.length c3, .slice A4 t5.length c4] 25)
  have HBA := Aside0.mk hBA
  clear hx hBA
  go_region_with ((go_at_call 116; refine (field_limits.calls _).mono ?_; rintro e w9 ⟨mb, rfl, hown, hb9⟩; have hlk := lim_look hown HWF.out; rw [HLIM.out] at hlk; have hb9' := below_then (below_drew HBA.out) (below_drew HBA.out).size hb9; have s0 := pw_cell_below hb9' s0; have s1 := pw_cell_below hb9' s1; have s2 := pw_cell_below hb9' s2; have s3 := pw_cell_below hb9' s3; have s4 := pw_cell_below hb9' s4; have q0 := pw_cell_below hb9 q0; have q1 := pw_cell_below hb9 q1; have q2 := pw_cell_below hb9 q2; have q3 := pw_cell_below hb9 q3; have q4 := pw_cell_below hb9 q4; have HB9 := Aside0.mk hb9'; clear hown hb9 hb9'))
  all_goals go_wp2
  all_goals go_ret
  all_goals exact ⟨rfl, below_then HB0.out HB0.out.size (below_then HB8.out HB8.out.size HB9.out)⟩
theorem field_one.calls (k : Nat) (a0_0 : Int) (a0_1 : Int) (a0_2 : ByteArray) (A0_3 : Option Addr) (c0_3 : Nat) (l0_3 : List ByteArray) (A0_4 : Option Addr) (c0_4 : Nat) (l0_4 : List S25) (b0 : ByteArray) (b1 : Int) (b2 : Bool) (b3 : Int) (b4 : Bool) (r : Int) (w : World) (hr0_3 : Kd.C Kd.string w A0_3 l0_3.length l0_3) (hc0_3 : l0_3.length ≤ c0_3) (hr0_4 : Kd.C k25 w A0_4 l0_4.length l0_4) (hc0_4 : l0_4.length ≤ c0_4)
    (h : field_one.f k a0_0 a0_1 a0_2 l0_3 l0_4 b0 b1 b2 b3 b4 = some r) :
    Calls Try.prog 79 #[.agg #[.int .i64 a0_0, .int .i64 a0_1, .string a0_2, .slice A0_3 l0_3.length c0_3, .slice A0_4 l0_4.length c0_4], .agg #[.string b0, .int .i64 b1, .bool b2, .int .i64 b3, .bool b4]] w fun e w' => e = .returned (.int .i64 r) ∧ Below w.heap.size w w' := by
  unfold field_one.f at h
  obtain ⟨⟨t1, t2, t3, t4, t5, ok⟩, hG, h⟩ := Option.bind_eq_some_iff.1 h
  simp only at h
  cases ok with
  | false =>
    rw [if_neg (by simp)] at h
    cases b2 with
    | true => obtain rfl := Option.some.inj h; exact one_no1 k a0_0 a0_1 a0_2 A0_3 c0_3 l0_3 A0_4 c0_4 l0_4 b0 b1 true b3 b4 w hr0_3 hc0_3 hr0_4 hc0_4 t1 t2 t3 t4 t5 _ hG rfl rfl
    | false => obtain rfl := Option.some.inj h; exact one_no0 k a0_0 a0_1 a0_2 A0_3 c0_3 l0_3 A0_4 c0_4 l0_4 b0 b1 false b3 b4 w hr0_3 hc0_3 hr0_4 hc0_4 t1 t2 t3 t4 t5 _ hG rfl rfl
  | true =>
    rw [if_pos rfl] at h
    by_cases h1 : b1 ≠ 0 ∧ t1 ≠ b1
    · rw [if_pos h1] at h
      obtain rfl := Option.some.inj h
      exact one_ty k a0_0 a0_1 a0_2 A0_3 c0_3 l0_3 A0_4 c0_4 l0_4 b0 b1 b2 b3 b4 w hr0_3 hc0_3 hr0_4 hc0_4 t1 t2 t3 t4 t5 _ hG rfl h1.1 h1.2
    · rw [if_neg h1] at h
      by_cases hw : (Lit.int .i64 t1).wf = true
      · rw [if_pos hw] at h
        obtain rfl := Option.some.inj h
        unfold limP
        by_cases e4 : t1 = 4
        · rw [if_pos e4]
          by_cases e : b1 = 0
          · exact one_l4a k a0_0 a0_1 a0_2 A0_3 c0_3 l0_3 A0_4 c0_4 l0_4 b0 b1 b2 b3 b4 w hr0_3 hc0_3 hr0_4 hc0_4 t1 t2 t3 t4 t5 _ hG rfl hw e e4
          · exact one_l4b k a0_0 a0_1 a0_2 A0_3 c0_3 l0_3 A0_4 c0_4 l0_4 b0 b1 b2 b3 b4 w hr0_3 hc0_3 hr0_4 hc0_4 t1 t2 t3 t4 t5 _ hG rfl hw e (by simpa [e] using h1) e4
        rw [if_neg e4]
        by_cases em : t1 = 5 ∨ t1 = 6
        · rw [if_pos em]
          by_cases e : b1 = 0
          · exact one_lma k a0_0 a0_1 a0_2 A0_3 c0_3 l0_3 A0_4 c0_4 l0_4 b0 b1 b2 b3 b4 w hr0_3 hc0_3 hr0_4 hc0_4 t1 t2 t3 t4 t5 _ hG rfl hw e em
          · exact one_lmb k a0_0 a0_1 a0_2 A0_3 c0_3 l0_3 A0_4 c0_4 l0_4 b0 b1 b2 b3 b4 w hr0_3 hc0_3 hr0_4 hc0_4 t1 t2 t3 t4 t5 _ hG rfl hw e (by simpa [e] using h1) em
        rw [if_neg em]
        by_cases e3 : t1 = 3
        · rw [if_pos e3]
          by_cases e : b1 = 0
          · exact one_l3a k a0_0 a0_1 a0_2 A0_3 c0_3 l0_3 A0_4 c0_4 l0_4 b0 b1 b2 b3 b4 w hr0_3 hc0_3 hr0_4 hc0_4 t1 t2 t3 t4 t5 _ hG rfl hw e e3
          · exact one_l3b k a0_0 a0_1 a0_2 A0_3 c0_3 l0_3 A0_4 c0_4 l0_4 b0 b1 b2 b3 b4 w hr0_3 hc0_3 hr0_4 hc0_4 t1 t2 t3 t4 t5 _ hG rfl hw e (by simpa [e] using h1) e3
        rw [if_neg e3]
        have eo : t1 ≠ 4 ∧ t1 ≠ 5 ∧ t1 ≠ 6 ∧ t1 ≠ 3 := by omega
        by_cases e : b1 = 0
        · exact one_loa k a0_0 a0_1 a0_2 A0_3 c0_3 l0_3 A0_4 c0_4 l0_4 b0 b1 b2 b3 b4 w hr0_3 hc0_3 hr0_4 hc0_4 t1 t2 t3 t4 t5 _ hG rfl hw e eo
        · exact one_lob k a0_0 a0_1 a0_2 A0_3 c0_3 l0_3 A0_4 c0_4 l0_4 b0 b1 b2 b3 b4 w hr0_3 hc0_3 hr0_4 hc0_4 t1 t2 t3 t4 t5 _ hG rfl hw e (by simpa [e] using h1) eo
      · rw [if_neg hw] at h; cases h
end Go.Proofs.Ytbnmcnghmnhigaa.X
end
section
namespace Go.Proofs.Ytbnmcnghmnhigaa.X
open Go.RowKit Go.Proofs.YtbnmcnghmnhigaaW.PrintWords Go.Proofs.YtbnmcnghmnhigaaW.PrintLast Go.Proofs.YtbnmcnghmnhigaaW.PrintMore
attribute [local go_sem] max2_int min2_int max_two min_two max_three min_three max_four min_four
set_option linter.unusedVariables false
set_option linter.unusedSimpArgs false
def field_rules.l0 : Nat → Int → Bool → List (S48) → List ByteArray → Int → Int → Option ((List (S48)))
  | 0, _, _, _, _, _, _ => none
  | k + 1, x0, x1, x7, x10, x11, x12 => if x12 < x11 then (if 0 ≤ x12 then (if x12 < (x10.length : Int) then (if x7.length < 2932031007402 then (field_rules.l0 k x0 x1 (x7 ++ [(⟨rdOf ByteArray.empty x10 x12, x0, x1, 0, false⟩ : S48)]) x10 x11 (wrap64 (x12 + 1))) else (none)) else (none)) else (none)) else (some x7)
def field_rules.f (k : Nat) (a0 : Int) (a1 : Bool) (l2 : List ByteArray) : Option ((List (S48))) := field_rules.l0 k a0 a1 ([] : List (S48)) l2 (l2.length : Int) 0
theorem field_rules.mono_l : ∀ k, (∀ y0 y1 y2 y3 y4 y5, LeO (field_rules.l0 k y0 y1 y2 y3 y4 y5) (field_rules.l0 (k + 1) y0 y1 y2 y3 y4 y5))
  | 0 => fun _ _ _ _ _ _ r h => by simp [field_rules.l0] at h
  | k + 1 => by
    have ih0 := field_rules.mono_l k
    · intro y0 y1 y2 y3 y4 y5
      unfold field_rules.l0
      repeat' first
      | (with_reducible exact ih0 _ _ _ _ _ _)
      | (with_reducible exact LeO.refl _)
      | (with_reducible exact LeO.none _)
      | (with_reducible refine LeO.ite ?_ ?_)
      | (with_reducible refine LeO.bind ?_ (fun _ => ?_))
      | exact ih0 _ _ _ _ _ _
      | exact LeO.none _
      | refine LeO.ite ?_ ?_
      | refine LeO.bind ?_ (fun _ => ?_)
theorem field_rules.mono : ∀ a0 a1 a2 k, LeO (field_rules.f k a0 a1 a2) (field_rules.f (k + 1) a0 a1 a2) := by
  intro a0 a1 a2 k
  have ih0 := field_rules.mono_l k
  unfold field_rules.f
  repeat' first
      | (with_reducible exact ih0 _ _ _ _ _ _)
      | (with_reducible exact LeO.refl _)
      | (with_reducible exact LeO.none _)
      | (with_reducible refine LeO.ite ?_ ?_)
      | (with_reducible refine LeO.bind ?_ (fun _ => ?_))
      | exact ih0 _ _ _ _ _ _
      | exact LeO.none _
      | refine LeO.ite ?_ ?_
      | refine LeO.bind ?_ (fun _ => ?_)
set_option maxHeartbeats 8000000 in
set_option maxRecDepth 100000 in
theorem field_rules.calls (k : Nat) (a0 : Int) (a1 : Bool) (A2 : Option Addr) (c2 : Nat) (l2 : List ByteArray) (r : List (S48)) (w : World) (hr2 : Kd.C Kd.string w A2 l2.length l2) (hc2 : l2.length ≤ c2) (h : field_rules.f k a0 a1 l2 = some r) :
    Calls Try.prog 75 #[.int .i64 a0, .bool a1, .slice A2 l2.length c2] w fun e w' => ∃ v0_ : Value, e = .returned (v0_) ∧ Kd.R k48 48 w' w.heap.size (fun _ => True) v0_ r ∧ Below w.heap.size w w' := by
  have hu48 := Try.underlying48
  have HR2 := Aside0.mk hr2
  have HC2 := Aside0.mk hc2
  clear hr2 hc2
  have HB := Aside0.mk (Below.refl w.heap.size w)
  have H : (field_rules.l0 k a0 a1 ([] : List (S48)) l2 (l2.length : Int) 0) = some r := h
  clear h
  have H' := Aside0.mk H
  clear H
  go_enter Try.func75, Try.ntmps75
  go_wp2
  go_loopg [7, 12] k (fun kq v7 v12 w' => ∃ (x7_1 : List (S48)) (x12_1 : Int), v12 = .int .i64 x12_1 ∧ Aside0 (field_rules.l0 kq a0 a1 x7_1 l2 (l2.length : Int) x12_1 = some r) ∧ Aside0 (kq ≤ k) ∧ Aside0 (Kd.R k48 48 w' w.heap.size (fun _ => True) v7 x7_1) ∧ Aside0 (Below w.heap.size w w'))
  case atStart => exact ⟨(([] : List (S48))), (0), (by first | rfl | (simp; done) | (simp [*]; done)), (by first | with_reducible exact H' | exact H' | (subst_vars; exact H')), ⟨Nat.le_refl _⟩, ⟨by first | exact Kd.R_nil _ _ _ _ _ | exact Kd.N_nil _ _ _ _ _ | exact Kd.V_nil _ _ _ _ _ | exact Kd.Q_nil _ _ _ _ _ | exact Kd.S_nil _ _ _ _ _⟩, ⟨by repeat (first | (with_reducible first | exact HB.out | apply below_alloc | apply pw_below_drewN | apply below_drew1) | exact HB.out)⟩⟩
  case round =>
    clear H'
    try clear c2
    try clear p2
    obtain ⟨x7_1, x12_1, rfl, HA, HK1, HO_7, HB⟩ := hrel
    cases gk with
    | zero => exact absurd HA.out (by simp [field_rules.l0])
    | succ k1 =>
      have H := HA.out
      clear HA
      simp only [field_rules.l0] at H
      by_cases c4 : x12_1 < (l2.length : Int)
      · rw [if_pos c4] at H
        have c4b0 : decide (x12_1 < (l2.length : Int)) = true := decide_eq_true c4
        clear c4
        by_cases c5 : 0 ≤ x12_1
        · rw [if_pos c5] at H
          have c5b0 : decide (0 ≤ x12_1) = true := decide_eq_true c5
          clear c5
          by_cases c6 : x12_1 < (l2.length : Int)
          · rw [if_pos c6] at H
            have c6b0 : decide (x12_1 < (l2.length : Int)) = true := decide_eq_true c6
            clear c6
            by_cases c7 : x7_1.length < 2932031007402
            · rw [if_pos c7] at H
              have LMc7 := Aside0.mk c7
              clear c7
              obtain ⟨y467, hy467⟩ : ∃ y_ : List (S48), y_ = (x7_1 ++ [(⟨rdOf ByteArray.empty l2 x12_1, a0, a1, 0, false⟩ : S48)]) := ⟨_, rfl⟩
              replace H : (field_rules.l0 k1 a0 a1 y467 l2 (l2.length : Int) (wrap64 (x12_1 + 1))) = some r := by first | (rw [hy467]; with_reducible exact H) | (have H2_ := (Option.bind_some _ _).symm.trans H; rw [hy467]; with_reducible exact H2_) | (have H2_ := (Option.bind_some _ _).symm.trans H; with_reducible exact H2_) | with_reducible exact H | (rw [hy467]; exact H) | exact H
              have Ny467 := Aside0.mk hy467
              clear hy467
              have H' := Aside0.mk H
              clear H
              have p466 : 0 ≤ (x12_1 : Int) := of_decide_eq_true (by first | (with_reducible assumption) | assumption)
              have q466 : x12_1 < (l2.length : Int) := of_decide_eq_true (by first | (with_reducible assumption) | assumption)
              obtain ⟨ad466, e466, hx466_0⟩ := Kd.at_string HR2.out x12_1 p466 q466
              cases e466
              (try replace hx466_0 := (HB.out.cell (World.block_lt_of_cell? w _ hx466_0)).trans hx466_0)
              replace p466 := eq_true p466
              replace q466 := eq_true q466
              go_wp2_with (first | ((with_reducible refine gate_builtin (b := .append) (xs := #[.tmp 16, .tmp 21]) rfl ?_); at_builtin; refine Kd.R_append k48 (w0 := w) w.heap.size rfl (.tmp 16) (.tmp 21) 43 48 (.agg #[(.string ⟨#[]⟩), (.int .i64 0), (.bool false), (.int .i64 0), (.bool false)]) 48 rfl Try.underlying43 info48 rfl (by decide) (by omega) u7 x7_1 (⟨rdOf ByteArray.empty l2 x12_1, a0, a1, 0, false⟩ : S48) [.string (rdOf ByteArray.empty l2 x12_1), .int .i64 a0, .bool a1, .int .i64 0, .bool false] (fun _ => True) (fun _ => False) rfl rfl ?aP (fun _ hk => hk.elim) ?aF ?aO ?aB ?aS ?aL ?_; (case aP => exact k48_mkM _ _ _ (⟨rdOf ByteArray.empty l2 x12_1, a0, a1, 0, false⟩ : S48)); (case aB => exact (by repeat (first | (with_reducible first | exact HB.out | apply below_alloc | apply pw_below_drewN | apply below_drew1) | exact HB.out))); (case aF => exact (fun _ _ => trivial)); (case aO => exact (by (with_reducible repeat (first | apply Kd.R_alloc | apply Kd.R_drewN | apply Kd.R_drew)); exact HO_7.out)); (case aS => exact (below_size (by repeat (first | (with_reducible first | exact HB.out | apply below_alloc | apply pw_below_drewN | apply below_drew1) | exact HB.out)))); (case aL => have := LMc7.out; omega); intro v468 w8 ho hb hg hat; rw [← Ny467.out] at ho; have n0_ := Aside0.mk (hb); have n1_ := Aside0.mk (ho); clear HB; clear HO_7; have HB := n0_; have HO469 := n1_; clear n0_ n1_; clear ho hb hg hat))
              go_roundg k1
              case measure => have := HK1.out; omega
              case rel => exact ⟨(y467), (wrap64 (x12_1 + 1)), (by first | rfl | (simp; done) | (simp [*]; done)), (by first | with_reducible exact H' | exact H' | (subst_vars; exact H')), ⟨by have := HK1.out; omega⟩, ⟨by (with_reducible repeat (first | apply Kd.R_alloc | apply Kd.R_drewN | apply Kd.R_drew)); exact HO469.out⟩, ⟨by repeat (first | (with_reducible first | exact HB.out | apply below_alloc | apply pw_below_drewN | apply below_drew1) | exact HB.out)⟩⟩
            · rw [if_neg c7] at H
              exact absurd H (by simp)
          · rw [if_neg c6] at H
            exact absurd H (by simp)
        · rw [if_neg c5] at H
          exact absurd H (by simp)
      · rw [if_neg c4] at H
        have c4b0 : decide (x12_1 < (l2.length : Int)) = false := decide_eq_false c4
        clear c4
        obtain rfl := Option.some.inj H
        go_wp2
        go_ret
        exact ⟨_, by first | rfl | (simp [errW_none, errW_some] <;> rfl) | (simp [*, errW_none, errW_some] <;> rfl), by (with_reducible repeat (first | apply Kd.R_alloc | apply Kd.R_drewN | apply Kd.R_drew)); exact HO_7.out, by repeat (first | (with_reducible first | exact HB.out | apply below_alloc | apply pw_below_drewN | apply below_drew1) | exact HB.out)⟩
end Go.Proofs.Ytbnmcnghmnhigaa.X
end
section
namespace Go.Proofs.Ytbnmcnghmnhigaa.X
open Go.RowKit Go.Proofs.YtbnmcnghmnhigaaW.PrintWords Go.Proofs.YtbnmcnghmnhigaaW.PrintLast Go.Proofs.YtbnmcnghmnhigaaW.PrintMore
attribute [local go_sem] max2_int min2_int max_two min_two max_three min_three max_four min_four
set_option linter.unusedVariables false
set_option linter.unusedSimpArgs false
def field_Must.f (k : Nat) (a0 : Int) (l1 : List ByteArray) : Option ((List (S48))) := (field_rules.f k a0 true l1).bind fun t470 => (some t470)
theorem field_Must.mono : ∀ a0 a1 k, LeO (field_Must.f k a0 a1) (field_Must.f (k + 1) a0 a1) := by
  intro a0 a1 k
  unfold field_Must.f
  repeat' first
      | (with_reducible exact field_rules.mono _ _ _ _)
      | (with_reducible exact LeO.refl _)
      | (with_reducible exact LeO.none _)
      | (with_reducible refine LeO.ite ?_ ?_)
      | (with_reducible refine LeO.bind ?_ (fun _ => ?_))
      | exact field_rules.mono _ _ _ _
      | exact LeO.none _
      | refine LeO.ite ?_ ?_
      | refine LeO.bind ?_ (fun _ => ?_)
set_option maxHeartbeats 8000000 in
set_option maxRecDepth 100000 in
theorem field_Must.calls (k : Nat) (a0 : Int) (A1 : Option Addr) (c1 : Nat) (l1 : List ByteArray) (r : List (S48)) (w : World) (hr1 : Kd.C Kd.string w A1 l1.length l1) (hc1 : l1.length ≤ c1) (h : field_Must.f k a0 l1 = some r) :
    Calls Try.prog 26 #[.int .i64 a0, .slice A1 l1.length c1] w fun e w' => ∃ v0_ : Value, e = .returned (v0_) ∧ Kd.R k48 48 w' w.heap.size (fun _ => True) v0_ r ∧ Below w.heap.size w w' := by
  have HR1 := Aside0.mk hr1
  have HC1 := Aside0.mk hc1
  clear hr1 hc1
  have HB := Aside0.mk (Below.refl w.heap.size w)
  have H : ((field_rules.f k a0 true l1).bind fun t470 => (some t470)) = some r := h
  clear h
  replace H := Option.bind_eq_some_iff.mp H
  obtain ⟨t470, A30, H⟩ := H
  replace H : (some t470) = some r := H
  have A3 := Aside0.mk A30
  clear A30
  obtain rfl := Option.some.inj H
  go_enter Try.func26, Try.ntmps26
  go_wp2_with (first | ((with_reducible refine gate_callee (f := 75) rfl ?_); refine goesL_ (some 7) rfl rfl Try.func75 (by kernel_rfl) rfl #[.int .i64 a0, .bool true, .slice A1 l1.length c1] rfl (by (try simp only [List.map_toArray, List.map_cons, List.map_nil]); first | done | rfl | (simp only [List.length_drop, List.length_take]; rfl)) ?_; (with_reducible refine (field_rules.calls k a0 true _ _ l1 t470 _ ?side1 ?side2 A3.out).mono ?_); (case side1 => repeat (first | exact HR1.out | (with_reducible refine Kd.C_alloc ?_ _) | (with_reducible refine Kd.C_drewN ?_ _) | (with_reducible refine Kd.C_drew ?_))); (case side2 => exact HC1.out); rintro e w4 ⟨v471, rfl, ho0, hb⟩; refine ⟨_, rfl, ?_⟩; have n0_ := Aside0.mk (Kd.R_lower ho0 (below_size (by repeat (first | (with_reducible first | exact HB.out | apply below_alloc | apply pw_below_drewN | apply below_drew1) | exact HB.out)))); have n1_ := Aside0.mk (below_step (by repeat (first | (with_reducible first | exact HB.out | apply below_alloc | apply pw_below_drewN | apply below_drew1) | exact HB.out)) hb); clear HB; have HO472 := n0_; have HB := n1_; clear n0_ n1_; (try clear hb); (try clear hb2); (try clear hk); (try clear hi); (try clear ho0)))
  go_ret
  exact ⟨_, by first | rfl | (simp [errW_none, errW_some] <;> rfl) | (simp [*, errW_none, errW_some] <;> rfl), by (with_reducible repeat (first | apply Kd.R_alloc | apply Kd.R_drewN | apply Kd.R_drew)); exact HO472.out, by repeat (first | (with_reducible first | exact HB.out | apply below_alloc | apply pw_below_drewN | apply below_drew1) | exact HB.out)⟩
end Go.Proofs.Ytbnmcnghmnhigaa.X
end
