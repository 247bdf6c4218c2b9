/- FieldChecks answers true at every node and rules. -/
import Derived.Test.YtbnmcnghmnhigaaC29B5
import Derived.Test.YtbnmcnghmnhigaaRows
import Derived.OpenShut
import Derived.Deep.Fields
import Derived.ChangeArms
import Derived.ChangeOld
import Derived.Below
import Derived.Carry
import Derived.JoinedCond
import Derived.ProofKit
import Derived.ShutString
import Derived.WalkKit
section
namespace Go.Proofs.Ytbnmcnghmnhigaa.X
open Go.RowKit Go.Proofs.YtbnmcnghmnhigaaW.PrintWords Go.Proofs.YtbnmcnghmnhigaaW.PrintLast Go.Proofs.YtbnmcnghmnhigaaW.PrintMore
attribute [local go_sem] max2_int min2_int max_two min_two max_three min_three max_four min_four
set_option linter.unusedVariables false
set_option linter.unusedSimpArgs false
mutual
def sealringlaw29_FieldChecks.j0 : Nat → List (S48) → Bool → Int → Int → ByteArray → List ByteArray → List (S25) → Option (Bool)
  | 0, _, _, _, _, _, _, _ => none
  | k + 1, x1, x22, x591000, x591001, x591002, x591003, x591004 => if x22 = true then ((sealringlaw29_lives.f k).bind fun t592 => (some t592)) else ((field_Check.f k x591000 x591001 x591002 x591003 x591004 x1).bind fun bt593 => ((sealringref29_Check.f k x591000 x591001 x591002 x591003 x591004 x1).bind fun bt595 => (if bt593.1.toList = bt595.1.toList then (sealringlaw29_FieldChecks.j1 k x1 (bt593.2 != bt595.2) x591000 x591001 x591002 x591003 x591004) else (sealringlaw29_FieldChecks.j1 k x1 true x591000 x591001 x591002 x591003 x591004))))
def sealringlaw29_FieldChecks.j1 : Nat → List (S48) → Bool → Int → Int → ByteArray → List ByteArray → List (S25) → Option (Bool)
  | 0, _, _, _, _, _, _, _ => none
  | k + 1, x1, x43, x591000, x591001, x591002, x591003, x591004 => if x43 = true then (some false) else (sealringlaw29_FieldChecks.l0 k x1 (x1.length : Int) 0 x591000 x591001 x591002 x591003 x591004)
def sealringlaw29_FieldChecks.l0 : Nat → List (S48) → Int → Int → Int → Int → ByteArray → List ByteArray → List (S25) → Option (Bool)
  | 0, _, _, _, _, _, _, _, _ => none
  | k + 1, x44, x45, x46, x591000, x591001, x591002, x591003, x591004 => if x46 < x45 then (if 0 ≤ x46 then (if x46 < (x44.length : Int) then ((field_Text.f k x591000 x591001 x591002 x591003 x591004 ((rd_T48 x44 x46).f0)).bind fun bt600 => ((sealringref29_Text.f k x591000 x591001 x591002 x591003 x591004 ((rd_T48 x44 x46).f0)).bind fun bt602 => (if bt600.1.toList = bt602.1.toList then (if (bt600.2 != bt602.2) = true then (some false) else (sealringlaw29_FieldChecks.l0 k x44 x45 (wrap64 (x46 + 1)) x591000 x591001 x591002 x591003 x591004)) else (some false)))) else (none)) else (none)) else ((sealringlaw29_lives.f k).bind fun t597 => (some t597))
end
def sealringlaw29_FieldChecks.f (k : Nat) (a0_0 : Int) (a0_1 : Int) (a0_2 : ByteArray) (l0_3 : List ByteArray) (l0_4 : List (S25)) (l1 : List (S48)) : Option (Bool) := (sealringlaw07_Few.f k a0_0 a0_1 a0_2 l0_3 l0_4 200).bind fun t591 => (if t591 = true then (sealringlaw29_FieldChecks.j0 k l1 (decide ((l1.length : Int) > 30)) a0_0 a0_1 a0_2 l0_3 l0_4) else (sealringlaw29_FieldChecks.j0 k l1 true a0_0 a0_1 a0_2 l0_3 l0_4))
theorem sealringlaw29_FieldChecks.mono_l : ∀ k, (∀ y0 y1 y2 y3 y4 y5 y6, LeO (sealringlaw29_FieldChecks.j0 k y0 y1 y2 y3 y4 y5 y6) (sealringlaw29_FieldChecks.j0 (k + 1) y0 y1 y2 y3 y4 y5 y6)) ∧ (∀ y0 y1 y2 y3 y4 y5 y6, LeO (sealringlaw29_FieldChecks.j1 k y0 y1 y2 y3 y4 y5 y6) (sealringlaw29_FieldChecks.j1 (k + 1) y0 y1 y2 y3 y4 y5 y6)) ∧ (∀ y0 y1 y2 y3 y4 y5 y6 y7, LeO (sealringlaw29_FieldChecks.l0 k y0 y1 y2 y3 y4 y5 y6 y7) (sealringlaw29_FieldChecks.l0 (k + 1) y0 y1 y2 y3 y4 y5 y6 y7))
  | 0 => ⟨fun _ _ _ _ _ _ _ r h => by simp [sealringlaw29_FieldChecks.j0] at h, fun _ _ _ _ _ _ _ r h => by simp [sealringlaw29_FieldChecks.j1] at h, fun _ _ _ _ _ _ _ _ r h => by simp [sealringlaw29_FieldChecks.l0] at h⟩
  | k + 1 => by
    obtain ⟨ih0, ih1, ih2⟩ := sealringlaw29_FieldChecks.mono_l k
    refine ⟨?_, ?_, ?_⟩
    · intro y0 y1 y2 y3 y4 y5 y6
      unfold sealringlaw29_FieldChecks.j0
      repeat' first
      | (with_reducible exact ih0 _ _ _ _ _ _ _)
      | (with_reducible exact ih1 _ _ _ _ _ _ _)
      | (with_reducible exact ih2 _ _ _ _ _ _ _ _)
      | (with_reducible exact field_Check.mono _ _ _ _ _ _ _)
      | (with_reducible exact field_Text.mono _ _ _ _ _ _ _)
      | (with_reducible exact sealringlaw07_Few.mono _ _ _ _ _ _ _)
      | (with_reducible exact sealringlaw29_lives.mono _)
      | (with_reducible exact sealringref29_Check.mono _ _ _ _ _ _ _)
      | (with_reducible exact sealringref29_Text.mono _ _ _ _ _ _ _)
      | (with_reducible exact LeO.refl _)
      | (with_reducible exact LeO.none _)
      | (with_reducible refine LeO.ite ?_ ?_)
      | (with_reducible refine LeO.bind ?_ (fun _ => ?_))
      | exact ih0 _ _ _ _ _ _ _
      | exact ih1 _ _ _ _ _ _ _
      | exact ih2 _ _ _ _ _ _ _ _
      | exact field_Check.mono _ _ _ _ _ _ _
      | exact field_Text.mono _ _ _ _ _ _ _
      | exact sealringlaw07_Few.mono _ _ _ _ _ _ _
      | exact sealringlaw29_lives.mono _
      | exact sealringref29_Check.mono _ _ _ _ _ _ _
      | exact sealringref29_Text.mono _ _ _ _ _ _ _
      | exact LeO.none _
      | refine LeO.ite ?_ ?_
      | refine LeO.bind ?_ (fun _ => ?_)
    · intro y0 y1 y2 y3 y4 y5 y6
      unfold sealringlaw29_FieldChecks.j1
      repeat' first
      | (with_reducible exact ih0 _ _ _ _ _ _ _)
      | (with_reducible exact ih1 _ _ _ _ _ _ _)
      | (with_reducible exact ih2 _ _ _ _ _ _ _ _)
      | (with_reducible exact field_Check.mono _ _ _ _ _ _ _)
      | (with_reducible exact field_Text.mono _ _ _ _ _ _ _)
      | (with_reducible exact sealringlaw07_Few.mono _ _ _ _ _ _ _)
      | (with_reducible exact sealringlaw29_lives.mono _)
      | (with_reducible exact sealringref29_Check.mono _ _ _ _ _ _ _)
      | (with_reducible exact sealringref29_Text.mono _ _ _ _ _ _ _)
      | (with_reducible exact LeO.refl _)
      | (with_reducible exact LeO.none _)
      | (with_reducible refine LeO.ite ?_ ?_)
      | (with_reducible refine LeO.bind ?_ (fun _ => ?_))
      | exact ih0 _ _ _ _ _ _ _
      | exact ih1 _ _ _ _ _ _ _
      | exact ih2 _ _ _ _ _ _ _ _
      | exact field_Check.mono _ _ _ _ _ _ _
      | exact field_Text.mono _ _ _ _ _ _ _
      | exact sealringlaw07_Few.mono _ _ _ _ _ _ _
      | exact sealringlaw29_lives.mono _
      | exact sealringref29_Check.mono _ _ _ _ _ _ _
      | exact sealringref29_Text.mono _ _ _ _ _ _ _
      | exact LeO.none _
      | refine LeO.ite ?_ ?_
      | refine LeO.bind ?_ (fun _ => ?_)
    · intro y0 y1 y2 y3 y4 y5 y6 y7
      unfold sealringlaw29_FieldChecks.l0
      repeat' first
      | (with_reducible exact ih0 _ _ _ _ _ _ _)
      | (with_reducible exact ih1 _ _ _ _ _ _ _)
      | (with_reducible exact ih2 _ _ _ _ _ _ _ _)
      | (with_reducible exact field_Check.mono _ _ _ _ _ _ _)
      | (with_reducible exact field_Text.mono _ _ _ _ _ _ _)
      | (with_reducible exact sealringlaw07_Few.mono _ _ _ _ _ _ _)
      | (with_reducible exact sealringlaw29_lives.mono _)
      | (with_reducible exact sealringref29_Check.mono _ _ _ _ _ _ _)
      | (with_reducible exact sealringref29_Text.mono _ _ _ _ _ _ _)
      | (with_reducible exact LeO.refl _)
      | (with_reducible exact LeO.none _)
      | (with_reducible refine LeO.ite ?_ ?_)
      | (with_reducible refine LeO.bind ?_ (fun _ => ?_))
      | exact ih0 _ _ _ _ _ _ _
      | exact ih1 _ _ _ _ _ _ _
      | exact ih2 _ _ _ _ _ _ _ _
      | exact field_Check.mono _ _ _ _ _ _ _
      | exact field_Text.mono _ _ _ _ _ _ _
      | exact sealringlaw07_Few.mono _ _ _ _ _ _ _
      | exact sealringlaw29_lives.mono _
      | exact sealringref29_Check.mono _ _ _ _ _ _ _
      | exact sealringref29_Text.mono _ _ _ _ _ _ _
      | exact LeO.none _
      | refine LeO.ite ?_ ?_
      | refine LeO.bind ?_ (fun _ => ?_)
theorem sealringlaw29_FieldChecks.mono : ∀ a0 a1 a2 a3 a4 a5 k, LeO (sealringlaw29_FieldChecks.f k a0 a1 a2 a3 a4 a5) (sealringlaw29_FieldChecks.f (k + 1) a0 a1 a2 a3 a4 a5) := by
  intro a0 a1 a2 a3 a4 a5 k
  obtain ⟨ih0, ih1, ih2⟩ := sealringlaw29_FieldChecks.mono_l k
  unfold sealringlaw29_FieldChecks.f
  repeat' first
      | (with_reducible exact ih0 _ _ _ _ _ _ _)
      | (with_reducible exact ih1 _ _ _ _ _ _ _)
      | (with_reducible exact ih2 _ _ _ _ _ _ _ _)
      | (with_reducible exact field_Check.mono _ _ _ _ _ _ _)
      | (with_reducible exact field_Text.mono _ _ _ _ _ _ _)
      | (with_reducible exact sealringlaw07_Few.mono _ _ _ _ _ _ _)
      | (with_reducible exact sealringlaw29_lives.mono _)
      | (with_reducible exact sealringref29_Check.mono _ _ _ _ _ _ _)
      | (with_reducible exact sealringref29_Text.mono _ _ _ _ _ _ _)
      | (with_reducible exact LeO.refl _)
      | (with_reducible exact LeO.none _)
      | (with_reducible refine LeO.ite ?_ ?_)
      | (with_reducible refine LeO.bind ?_ (fun _ => ?_))
      | exact ih0 _ _ _ _ _ _ _
      | exact ih1 _ _ _ _ _ _ _
      | exact ih2 _ _ _ _ _ _ _ _
      | exact field_Check.mono _ _ _ _ _ _ _
      | exact field_Text.mono _ _ _ _ _ _ _
      | exact sealringlaw07_Few.mono _ _ _ _ _ _ _
      | exact sealringlaw29_lives.mono _
      | exact sealringref29_Check.mono _ _ _ _ _ _ _
      | exact sealringref29_Text.mono _ _ _ _ _ _ _
      | exact LeO.none _
      | refine LeO.ite ?_ ?_
      | refine LeO.bind ?_ (fun _ => ?_)
set_option maxHeartbeats 8000000 in
set_option maxRecDepth 100000 in
theorem sealringlaw29_FieldChecks.calls (k : Nat) (a0_0 : Int) (a0_1 : Int) (a0_2 : ByteArray) (A0_3 : Option Addr) (c0_3 : Nat) (l0_3 : List ByteArray) (A0_4 : Option Addr) (c0_4 : Nat) (l0_4 : List (S25)) (A1 : Option Addr) (c1 : Nat) (l1 : List (S48)) (r : Bool) (w : World) (hr0_3 : Kd.C Kd.string w A0_3 l0_3.length l0_3) (hc0_3 : l0_3.length ≤ c0_3) (hr0_4 : Kd.C k25 w A0_4 l0_4.length l0_4) (hc0_4 : l0_4.length ≤ c0_4) (hr1 : Kd.C k48 w A1 l1.length l1) (hc1 : l1.length ≤ c1) (h : sealringlaw29_FieldChecks.f k a0_0 a0_1 a0_2 l0_3 l0_4 l1 = some r) :
    Calls Try.prog 6 #[.agg #[.int .i64 a0_0, .int .i64 a0_1, .string a0_2, .slice A0_3 l0_3.length c0_3, .slice A0_4 l0_4.length c0_4], .slice A1 l1.length c1] w fun e w' => e = .returned (.bool r) ∧ Below w.heap.size w w' := by
  have hu25 := Try.underlying25
  have hu48 := Try.underlying48
  have HR0_3 := Aside0.mk hr0_3
  have HC0_3 := Aside0.mk hc0_3
  clear hr0_3 hc0_3
  have HR0_4 := Aside0.mk hr0_4
  have HC0_4 := Aside0.mk hc0_4
  clear hr0_4 hc0_4
  have HR1 := Aside0.mk hr1
  have HC1 := Aside0.mk hc1
  clear hr1 hc1
  have HB := Aside0.mk (Below.refl w.heap.size w)
  have H : ((sealringlaw07_Few.f k a0_0 a0_1 a0_2 l0_3 l0_4 200).bind fun t591 => (if t591 = true then (sealringlaw29_FieldChecks.j0 k l1 (decide ((l1.length : Int) > 30)) a0_0 a0_1 a0_2 l0_3 l0_4) else (sealringlaw29_FieldChecks.j0 k l1 true a0_0 a0_1 a0_2 l0_3 l0_4))) = some r := h
  clear h
  have HC3 := Aside0.mk H
  clear H
  go_enter Try.func6, Try.ntmps6
  go_upto_region 1 with (first | ((with_reducible refine gate_dst (N := 2) rfl ?_); (try (refine gate_guard (by rfl) ?_; dsimp only)); refine box_event ?hg (N := 2) ?hd (cs := #[.int .i64 a0_0, .int .i64 a0_1, .string a0_2, .slice A0_3 l0_3.length c0_3, .slice A0_4 l0_4.length c0_4]) (t := 25) ?hr ?_; (case hd => rfl); (case hg => rfl); (case hr => first | (go_simp; done) | (go_simp; rfl)); intro gb590 hg w4 hbox hb; have n0_ := Aside0.mk (below_step (by repeat (first | (with_reducible first | exact HB.out | apply below_alloc | apply pw_below_drewN | apply below_drew1) | exact HB.out)) hb); have n1_ := Aside0.mk (hbox); have n2_ := Aside0.mk ((by rw [hg]; exact (below_size (by repeat (first | (with_reducible first | exact HB.out | apply below_alloc | apply pw_below_drewN | apply below_drew1) | exact HB.out))) : w.heap.size ≤ gb590)); have n3_ := Aside0.mk ((by rw [hg]; exact (below_size (by repeat (first | (with_reducible first | exact HB.out | apply below_alloc | apply pw_below_drewN | apply below_drew1) | exact HB.out))) : w.heap.size ≤ gb590)); clear HB; have HB := n0_; have BK590 := n1_; have GW590 := n2_; have GE590 := n3_; clear n0_ n1_ n2_ n3_; clear hb hbox hg))
  (try simp only [Act.put, List.setIfInBounds_toArray, List.set_cons_zero, List.set_cons_succ])
  go_cut [22] (fun v22 wc => ∃ (kq : Nat) (x22_2 : Bool), v22 = .bool x22_2 ∧ Aside0 (sealringlaw29_FieldChecks.j0 kq l1 x22_2 a0_0 a0_1 a0_2 l0_3 l0_4 = some r) ∧ Aside0 (kq ≤ k) ∧ Aside0 (wc.heap[gb590]? = some (.cells #[.int .i64 a0_0, .int .i64 a0_1, .string a0_2, (.slice A0_3 l0_3.length c0_3), (.slice A0_4 l0_4.length c0_4)] 25 (0, 0))) ∧ Aside0 (Below w.heap.size w wc))
  case first =>
    have H := HC3.out
    clear HC3
    replace H := Option.bind_eq_some_iff.mp H
    obtain ⟨t591, A50, H⟩ := H
    replace H : (if t591 = true then (sealringlaw29_FieldChecks.j0 k l1 (decide ((l1.length : Int) > 30)) a0_0 a0_1 a0_2 l0_3 l0_4) else (sealringlaw29_FieldChecks.j0 k l1 true a0_0 a0_1 a0_2 l0_3 l0_4)) = some r := H
    have A5 := Aside0.mk A50
    clear A50
    by_cases c6 : t591 = true
    · subst c6
      have H1 : (sealringlaw29_FieldChecks.j0 k l1 (decide ((l1.length : Int) > 30)) a0_0 a0_1 a0_2 l0_3 l0_4) = some r := by rw [if_pos rfl] at H; exact H
      clear H
      have H := H1
      clear H1
      have H' := Aside0.mk H
      clear H
      have hcz7_0 : w4.cell? ⟨gb590, 0, none⟩ = some (.int .i64 a0_0) := (blk_cell BK590.out 0).trans rfl
      have hcz7_1 : w4.cell? ⟨gb590, 1, none⟩ = some (.int .i64 a0_1) := (blk_cell BK590.out 1).trans rfl
      have hcz7_2 : w4.cell? ⟨gb590, 2, none⟩ = some (.string a0_2) := (blk_cell BK590.out 2).trans rfl
      have hcz7_3 : w4.cell? ⟨gb590, 3, none⟩ = some (.slice A0_3 l0_3.length c0_3) := (blk_cell BK590.out 3).trans rfl
      have hcz7_4 : w4.cell? ⟨gb590, 4, none⟩ = some (.slice A0_4 l0_4.length c0_4) := (blk_cell BK590.out 4).trans rfl
      have hfz7_0 := blk_frozen BK590.out 0
      have hfz7_1 := blk_frozen BK590.out 1
      have hfz7_2 := blk_frozen BK590.out 2
      have hfz7_3 := blk_frozen BK590.out 3
      have hfz7_4 := blk_frozen BK590.out 4
      go_wp2_with (first | ((with_reducible refine gate_callee (f := 13) rfl ?_); refine goesL_ (some 16) rfl rfl Try.func13 (by kernel_rfl) rfl #[.agg #[.int .i64 a0_0, .int .i64 a0_1, .string a0_2, .slice A0_3 l0_3.length c0_3, .slice A0_4 l0_4.length c0_4], .int .i64 200] rfl (by (try simp only [List.map_toArray, List.map_cons, List.map_nil]); first | done | rfl | (simp only [List.length_drop, List.length_take]; rfl)) ?_; (with_reducible refine (sealringlaw07_Few.calls k a0_0 a0_1 a0_2 _ _ l0_3 _ _ l0_4 200 true _ ?side1 ?side2 ?side3 ?side4 A5.out).mono ?_); (case side1 => repeat (first | exact (Kd.C_below HR0_3.out HB.out) | (with_reducible refine Kd.C_alloc ?_ _) | (with_reducible refine Kd.C_drewN ?_ _) | (with_reducible refine Kd.C_drew ?_))); (case side2 => exact HC0_3.out); (case side3 => repeat (first | exact (Kd.C_below HR0_4.out HB.out) | (with_reducible refine Kd.C_alloc ?_ _) | (with_reducible refine Kd.C_drewN ?_ _) | (with_reducible refine Kd.C_drew ?_))); (case side4 => exact HC0_4.out); rintro e w8 ⟨rfl, hb⟩; refine ⟨_, rfl, ?_⟩; have n0_ := Aside0.mk (blk_below (g := gb590) (o := .cells #[.int .i64 a0_0, .int .i64 a0_1, .string a0_2, .slice A0_3 l0_3.length c0_3, .slice A0_4 l0_4.length c0_4] 25 (0, 0)) (by (with_reducible repeat (first | refine blk_drewN ?_ _ | refine blk_drew ?_ | refine blk_alloc ?_ _)); exact BK590.out) hb); have n1_ := Aside0.mk (below_step (by repeat (first | (with_reducible first | exact HB.out | apply below_alloc | apply pw_below_drewN | apply below_drew1 | refine below_set ?_ GE590.out) | exact HB.out)) hb); clear BK590; clear HB; have BK590 := n0_; have HB := n1_; clear n0_ n1_; (try clear hb); (try clear hb2); (try clear hk); (try clear hi)))
      go_meet
      case rel => exact ⟨_, (decide ((l1.length : Int) > 30)), (by first | rfl | (simp; done) | (simp [*]; done)), (by first | with_reducible exact H' | exact H' | (subst_vars; exact H')), ⟨by first | omega | exact Nat.le_refl _⟩, ⟨by (with_reducible repeat (first | refine blk_drewN ?_ _ | refine blk_drew ?_ | refine blk_alloc ?_ _)); exact BK590.out⟩, ⟨by repeat (first | (with_reducible first | exact HB.out | apply below_alloc | apply pw_below_drewN | apply below_drew1 | refine below_set ?_ GE590.out) | exact HB.out)⟩⟩
    · replace c6 := Bool.eq_false_iff.mpr c6
      subst c6
      have H1 : (sealringlaw29_FieldChecks.j0 k l1 true a0_0 a0_1 a0_2 l0_3 l0_4) = some r := by rw [if_neg (show ¬ (false = true) by decide)] at H; exact H
      clear H
      have H := H1
      clear H1
      have H' := Aside0.mk H
      clear H
      have hcz9_0 : w4.cell? ⟨gb590, 0, none⟩ = some (.int .i64 a0_0) := (blk_cell BK590.out 0).trans rfl
      have hcz9_1 : w4.cell? ⟨gb590, 1, none⟩ = some (.int .i64 a0_1) := (blk_cell BK590.out 1).trans rfl
      have hcz9_2 : w4.cell? ⟨gb590, 2, none⟩ = some (.string a0_2) := (blk_cell BK590.out 2).trans rfl
      have hcz9_3 : w4.cell? ⟨gb590, 3, none⟩ = some (.slice A0_3 l0_3.length c0_3) := (blk_cell BK590.out 3).trans rfl
      have hcz9_4 : w4.cell? ⟨gb590, 4, none⟩ = some (.slice A0_4 l0_4.length c0_4) := (blk_cell BK590.out 4).trans rfl
      have hfz9_0 := blk_frozen BK590.out 0
      have hfz9_1 := blk_frozen BK590.out 1
      have hfz9_2 := blk_frozen BK590.out 2
      have hfz9_3 := blk_frozen BK590.out 3
      have hfz9_4 := blk_frozen BK590.out 4
      go_wp2_with (first | ((with_reducible refine gate_callee (f := 13) rfl ?_); refine goesL_ (some 16) rfl rfl Try.func13 (by kernel_rfl) rfl #[.agg #[.int .i64 a0_0, .int .i64 a0_1, .string a0_2, .slice A0_3 l0_3.length c0_3, .slice A0_4 l0_4.length c0_4], .int .i64 200] rfl (by (try simp only [List.map_toArray, List.map_cons, List.map_nil]); first | done | rfl | (simp only [List.length_drop, List.length_take]; rfl)) ?_; (with_reducible refine (sealringlaw07_Few.calls k a0_0 a0_1 a0_2 _ _ l0_3 _ _ l0_4 200 false _ ?side1 ?side2 ?side3 ?side4 A5.out).mono ?_); (case side1 => repeat (first | exact (Kd.C_below HR0_3.out HB.out) | (with_reducible refine Kd.C_alloc ?_ _) | (with_reducible refine Kd.C_drewN ?_ _) | (with_reducible refine Kd.C_drew ?_))); (case side2 => exact HC0_3.out); (case side3 => repeat (first | exact (Kd.C_below HR0_4.out HB.out) | (with_reducible refine Kd.C_alloc ?_ _) | (with_reducible refine Kd.C_drewN ?_ _) | (with_reducible refine Kd.C_drew ?_))); (case side4 => exact HC0_4.out); rintro e w10 ⟨rfl, hb⟩; refine ⟨_, rfl, ?_⟩; have n0_ := Aside0.mk (blk_below (g := gb590) (o := .cells #[.int .i64 a0_0, .int .i64 a0_1, .string a0_2, .slice A0_3 l0_3.length c0_3, .slice A0_4 l0_4.length c0_4] 25 (0, 0)) (by (with_reducible repeat (first | refine blk_drewN ?_ _ | refine blk_drew ?_ | refine blk_alloc ?_ _)); exact BK590.out) hb); have n1_ := Aside0.mk (below_step (by repeat (first | (with_reducible first | exact HB.out | apply below_alloc | apply pw_below_drewN | apply below_drew1 | refine below_set ?_ GE590.out) | exact HB.out)) hb); clear BK590; clear HB; have BK590 := n0_; have HB := n1_; clear n0_ n1_; (try clear hb); (try clear hb2); (try clear hk); (try clear hi)))
      go_meet
      case rel => exact ⟨_, (true), (by first | rfl | (simp; done) | (simp [*]; done)), (by first | with_reducible exact H' | exact H' | (subst_vars; exact H')), ⟨by first | omega | exact Nat.le_refl _⟩, ⟨by (with_reducible repeat (first | refine blk_drewN ?_ _ | refine blk_drew ?_ | refine blk_alloc ?_ _)); exact BK590.out⟩, ⟨by repeat (first | (with_reducible first | exact HB.out | apply below_alloc | apply pw_below_drewN | apply below_drew1 | refine below_set ?_ GE590.out) | exact HB.out)⟩⟩
  case rest =>
    clear HC3
    try clear c1
    try clear p2
    try clear c6
    try clear hcz7_0
    try clear hcz7_1
    try clear hcz7_2
    try clear hcz7_3
    try clear hcz7_4
    try clear hcz9_0
    try clear hcz9_1
    try clear hcz9_2
    try clear hcz9_3
    try clear hcz9_4
    try clear hfz7_0
    try clear hfz7_1
    try clear hfz7_2
    try clear hfz7_3
    try clear hfz7_4
    try clear hfz9_0
    try clear hfz9_1
    try clear hfz9_2
    try clear hfz9_3
    try clear hfz9_4
    obtain ⟨kq, x22_2, rfl, HA, HJ2, BK590, HB⟩ := hcut
    cases kq with
    | zero => exact absurd HA.out (by simp [sealringlaw29_FieldChecks.j0])
    | succ kj2 =>
      have H := HA.out
      clear HA
      simp only [sealringlaw29_FieldChecks.j0] at H
      by_cases c11 : x22_2 = true
      · subst c11
        have H1 : ((sealringlaw29_lives.f kj2).bind fun t592 => (some t592)) = some r := by rw [if_pos rfl] at H; exact H
        clear H
        have H := H1
        clear H1
        replace H := Option.bind_eq_some_iff.mp H
        obtain ⟨t592, A120, H⟩ := H
        replace H : (some t592) = some r := H
        have A12 := Aside0.mk A120
        clear A120
        obtain rfl := Option.some.inj H
        go_wp2_with (first | ((with_reducible refine gate_callee (f := 25) rfl ?_); refine goesL_ (some 23) rfl rfl Try.func25 (by kernel_rfl) rfl #[] rfl (by (try simp only [List.map_toArray, List.map_cons, List.map_nil]); first | done | rfl | (simp only [List.length_drop, List.length_take]; rfl)) ?_; (with_reducible refine (sealringlaw29_lives.calls kj2  t592 _ A12.out).mono ?_); rintro e w13 ⟨rfl, hb⟩; refine ⟨_, rfl, ?_⟩; have n0_ := Aside0.mk (blk_below (g := gb590) (o := .cells #[.int .i64 a0_0, .int .i64 a0_1, .string a0_2, .slice A0_3 l0_3.length c0_3, .slice A0_4 l0_4.length c0_4] 25 (0, 0)) (by (with_reducible repeat (first | refine blk_drewN ?_ _ | refine blk_drew ?_ | refine blk_alloc ?_ _)); exact BK590.out) hb); have n1_ := Aside0.mk (below_step (by repeat (first | (with_reducible first | exact HB.out | apply below_alloc | apply pw_below_drewN | apply below_drew1 | refine below_set ?_ GE590.out) | exact HB.out)) hb); clear BK590; clear HB; have BK590 := n0_; have HB := n1_; clear n0_ n1_; (try clear hb); (try clear hb2); (try clear hk); (try clear hi)))
        go_ret
        exact ⟨by first | rfl | (simp [errW_none, errW_some] <;> rfl) | (simp [*, errW_none, errW_some] <;> rfl), by repeat (first | (with_reducible first | exact HB.out | apply below_alloc | apply pw_below_drewN | apply below_drew1 | refine below_set ?_ GE590.out) | exact HB.out)⟩
      · replace c11 := Bool.eq_false_iff.mpr c11
        subst c11
        have H1 : ((field_Check.f kj2 a0_0 a0_1 a0_2 l0_3 l0_4 l1).bind fun bt593 => ((sealringref29_Check.f kj2 a0_0 a0_1 a0_2 l0_3 l0_4 l1).bind fun bt595 => (if bt593.1.toList = bt595.1.toList then (sealringlaw29_FieldChecks.j1 kj2 l1 (bt593.2 != bt595.2) a0_0 a0_1 a0_2 l0_3 l0_4) else (sealringlaw29_FieldChecks.j1 kj2 l1 true a0_0 a0_1 a0_2 l0_3 l0_4)))) = some r := by rw [if_neg (show ¬ (false = true) by decide)] at H; exact H
        clear H
        have H := H1
        clear H1
        replace H := Option.bind_eq_some_iff.mp H
        obtain ⟨⟨t593, t594⟩, A140, H⟩ := H
        replace H : ((sealringref29_Check.f kj2 a0_0 a0_1 a0_2 l0_3 l0_4 l1).bind fun bt595 => (if t593.toList = bt595.1.toList then (sealringlaw29_FieldChecks.j1 kj2 l1 (t594 != bt595.2) a0_0 a0_1 a0_2 l0_3 l0_4) else (sealringlaw29_FieldChecks.j1 kj2 l1 true a0_0 a0_1 a0_2 l0_3 l0_4))) = some r := H
        have A14 := Aside0.mk A140
        clear A140
        replace H := Option.bind_eq_some_iff.mp H
        obtain ⟨⟨t595, t596⟩, A150, H⟩ := H
        replace H : (if t593.toList = t595.toList then (sealringlaw29_FieldChecks.j1 kj2 l1 (t594 != t596) a0_0 a0_1 a0_2 l0_3 l0_4) else (sealringlaw29_FieldChecks.j1 kj2 l1 true a0_0 a0_1 a0_2 l0_3 l0_4)) = some r := H
        have A15 := Aside0.mk A150
        clear A150
        have HC16 := Aside0.mk H
        clear H
        have hcz17_0 : wc.cell? ⟨gb590, 0, none⟩ = some (.int .i64 a0_0) := (blk_cell BK590.out 0).trans rfl
        have hcz17_1 : wc.cell? ⟨gb590, 1, none⟩ = some (.int .i64 a0_1) := (blk_cell BK590.out 1).trans rfl
        have hcz17_2 : wc.cell? ⟨gb590, 2, none⟩ = some (.string a0_2) := (blk_cell BK590.out 2).trans rfl
        have hcz17_3 : wc.cell? ⟨gb590, 3, none⟩ = some (.slice A0_3 l0_3.length c0_3) := (blk_cell BK590.out 3).trans rfl
        have hcz17_4 : wc.cell? ⟨gb590, 4, none⟩ = some (.slice A0_4 l0_4.length c0_4) := (blk_cell BK590.out 4).trans rfl
        have hfz17_0 := blk_frozen BK590.out 0
        have hfz17_1 := blk_frozen BK590.out 1
        have hfz17_2 := blk_frozen BK590.out 2
        have hfz17_3 := blk_frozen BK590.out 3
        have hfz17_4 := blk_frozen BK590.out 4
        go_upto_region 5 with (first | ((with_reducible refine gate_callee (f := 30) rfl ?_); refine goesL_ (some 27) rfl rfl Try.func30 (by kernel_rfl) rfl #[.agg #[.int .i64 a0_0, .int .i64 a0_1, .string a0_2, .slice A0_3 l0_3.length c0_3, .slice A0_4 l0_4.length c0_4], .slice A1 l1.length c1] rfl (by (try simp only [List.map_toArray, List.map_cons, List.map_nil]); first | done | rfl | (simp only [List.length_drop, List.length_take]; rfl)) ?_; (with_reducible refine (field_Check.calls kj2 a0_0 a0_1 a0_2 _ _ l0_3 _ _ l0_4 _ _ l1 t593 t594 _ ?side1 ?side2 ?side3 ?side4 ?side5 ?side6 A14.out).mono ?_); (case side1 => repeat (first | exact (Kd.C_below HR0_3.out HB.out) | (with_reducible refine Kd.C_alloc ?_ _) | (with_reducible refine Kd.C_drewN ?_ _) | (with_reducible refine Kd.C_drew ?_))); (case side2 => exact HC0_3.out); (case side3 => repeat (first | exact (Kd.C_below HR0_4.out HB.out) | (with_reducible refine Kd.C_alloc ?_ _) | (with_reducible refine Kd.C_drewN ?_ _) | (with_reducible refine Kd.C_drew ?_))); (case side4 => exact HC0_4.out); (case side5 => repeat (first | exact (Kd.C_below HR1.out HB.out) | (with_reducible refine Kd.C_alloc ?_ _) | (with_reducible refine Kd.C_drewN ?_ _) | (with_reducible refine Kd.C_drew ?_))); (case side6 => exact HC1.out); rintro e w18 ⟨rfl, hb⟩; refine ⟨_, rfl, ?_⟩; have n0_ := Aside0.mk (blk_below (g := gb590) (o := .cells #[.int .i64 a0_0, .int .i64 a0_1, .string a0_2, .slice A0_3 l0_3.length c0_3, .slice A0_4 l0_4.length c0_4] 25 (0, 0)) (by (with_reducible repeat (first | refine blk_drewN ?_ _ | refine blk_drew ?_ | refine blk_alloc ?_ _)); exact BK590.out) hb); have n1_ := Aside0.mk (below_step (by repeat (first | (with_reducible first | exact HB.out | apply below_alloc | apply pw_below_drewN | apply below_drew1 | refine below_set ?_ GE590.out) | exact HB.out)) hb); clear BK590; clear HB; have BK590 := n0_; have HB := n1_; clear n0_ n1_; (try clear hb); (try clear hb2); (try clear hk); (try clear hi); have hcz19_0 : w18.cell? ⟨gb590, 0, none⟩ = some (.int .i64 a0_0) := (blk_cell BK590.out 0).trans rfl; have hcz19_1 : w18.cell? ⟨gb590, 1, none⟩ = some (.int .i64 a0_1) := (blk_cell BK590.out 1).trans rfl; have hcz19_2 : w18.cell? ⟨gb590, 2, none⟩ = some (.string a0_2) := (blk_cell BK590.out 2).trans rfl; have hcz19_3 : w18.cell? ⟨gb590, 3, none⟩ = some (.slice A0_3 l0_3.length c0_3) := (blk_cell BK590.out 3).trans rfl; have hcz19_4 : w18.cell? ⟨gb590, 4, none⟩ = some (.slice A0_4 l0_4.length c0_4) := (blk_cell BK590.out 4).trans rfl; have hfz19_0 := blk_frozen BK590.out 0; have hfz19_1 := blk_frozen BK590.out 1; have hfz19_2 := blk_frozen BK590.out 2; have hfz19_3 := blk_frozen BK590.out 3; have hfz19_4 := blk_frozen BK590.out 4) | ((with_reducible refine gate_callee (f := 31) rfl ?_); refine goesL_ (some 33) rfl rfl Try.func31 (by kernel_rfl) rfl #[.agg #[.int .i64 a0_0, .int .i64 a0_1, .string a0_2, .slice A0_3 l0_3.length c0_3, .slice A0_4 l0_4.length c0_4], .slice A1 l1.length c1] rfl (by (try simp only [List.map_toArray, List.map_cons, List.map_nil]); first | done | rfl | (simp only [List.length_drop, List.length_take]; rfl)) ?_; (with_reducible refine (sealringref29_Check.calls kj2 a0_0 a0_1 a0_2 _ _ l0_3 _ _ l0_4 _ _ l1 t595 t596 _ ?side1 ?side2 ?side3 ?side4 ?side5 ?side6 A15.out).mono ?_); (case side1 => repeat (first | exact (Kd.C_below HR0_3.out HB.out) | (with_reducible refine Kd.C_alloc ?_ _) | (with_reducible refine Kd.C_drewN ?_ _) | (with_reducible refine Kd.C_drew ?_))); (case side2 => exact HC0_3.out); (case side3 => repeat (first | exact (Kd.C_below HR0_4.out HB.out) | (with_reducible refine Kd.C_alloc ?_ _) | (with_reducible refine Kd.C_drewN ?_ _) | (with_reducible refine Kd.C_drew ?_))); (case side4 => exact HC0_4.out); (case side5 => repeat (first | exact (Kd.C_below HR1.out HB.out) | (with_reducible refine Kd.C_alloc ?_ _) | (with_reducible refine Kd.C_drewN ?_ _) | (with_reducible refine Kd.C_drew ?_))); (case side6 => exact HC1.out); rintro e w20 ⟨rfl, hb⟩; refine ⟨_, rfl, ?_⟩; have n0_ := Aside0.mk (blk_below (g := gb590) (o := .cells #[.int .i64 a0_0, .int .i64 a0_1, .string a0_2, .slice A0_3 l0_3.length c0_3, .slice A0_4 l0_4.length c0_4] 25 (0, 0)) (by (with_reducible repeat (first | refine blk_drewN ?_ _ | refine blk_drew ?_ | refine blk_alloc ?_ _)); exact BK590.out) hb); have n1_ := Aside0.mk (below_step (by repeat (first | (with_reducible first | exact HB.out | apply below_alloc | apply pw_below_drewN | apply below_drew1 | refine below_set ?_ GE590.out) | exact HB.out)) hb); clear BK590; clear HB; have BK590 := n0_; have HB := n1_; clear n0_ n1_; (try clear hb); (try clear hb2); (try clear hk); (try clear hi)))
        (try simp only [Act.put, List.setIfInBounds_toArray, List.set_cons_zero, List.set_cons_succ])
        go_cut [43] (fun v43 wc => ∃ (kq : Nat) (x43_15 : Bool), v43 = .bool x43_15 ∧ Aside0 (sealringlaw29_FieldChecks.j1 kq l1 x43_15 a0_0 a0_1 a0_2 l0_3 l0_4 = some r) ∧ Aside0 (kq ≤ kj2) ∧ Aside0 (wc.heap[gb590]? = some (.cells #[.int .i64 a0_0, .int .i64 a0_1, .string a0_2, (.slice A0_3 l0_3.length c0_3), (.slice A0_4 l0_4.length c0_4)] 25 (0, 0))) ∧ Aside0 (Below w.heap.size w wc))
        case first =>
          have H := HC16.out
          clear HC16
          by_cases c21 : t593.toList = t595.toList
          · rw [if_pos c21] at H
            have c21b0 : (t593.toList == t595.toList) = true := beq_iff_eq.mpr c21
            have c21b1 : (t593.toList != t595.toList) = false := bne_eq_false_iff_eq.mpr c21
            clear c21
            (first | rw [c21b0] | (simp only [i64_w, i32_w]; rw [c21b0]) | skip)
            have H' := Aside0.mk H
            clear H
            go_wp2
            go_meet
            case rel => exact ⟨_, ((t594 != t596)), (by first | rfl | (simp; done) | (simp [*]; done)), (by first | with_reducible exact H' | exact H' | (subst_vars; exact H')), ⟨by have := HJ2.out; first | omega | exact Nat.le_refl _⟩, ⟨by (with_reducible repeat (first | refine blk_drewN ?_ _ | refine blk_drew ?_ | refine blk_alloc ?_ _)); exact BK590.out⟩, ⟨by repeat (first | (with_reducible first | exact HB.out | apply below_alloc | apply pw_below_drewN | apply below_drew1 | refine below_set ?_ GE590.out) | exact HB.out)⟩⟩
          · rw [if_neg c21] at H
            have c21b0 : (t593.toList == t595.toList) = false := beq_eq_false_iff_ne.mpr c21
            have c21b1 : (t593.toList != t595.toList) = true := bne_iff_ne.mpr c21
            (first | rw [c21b0] | (simp only [i64_w, i32_w]; rw [c21b0]) | skip)
            have H' := Aside0.mk H
            clear H
            go_wp2
            go_meet
            case rel => exact ⟨_, (true), (by first | rfl | (simp; done) | (simp [*]; done)), (by first | with_reducible exact H' | exact H' | (subst_vars; exact H')), ⟨by have := HJ2.out; first | omega | exact Nat.le_refl _⟩, ⟨by (with_reducible repeat (first | refine blk_drewN ?_ _ | refine blk_drew ?_ | refine blk_alloc ?_ _)); exact BK590.out⟩, ⟨by repeat (first | (with_reducible first | exact HB.out | apply below_alloc | apply pw_below_drewN | apply below_drew1 | refine below_set ?_ GE590.out) | exact HB.out)⟩⟩
        case rest =>
          clear HC16
          try clear c1
          try clear c2
          try clear p2
          try clear c3
          try clear c6
          try clear c11
          try clear c13
          try clear c21
          try clear c21b0
          try clear c21b1
          try clear hcz17_0
          try clear hcz17_1
          try clear hcz17_2
          try clear hcz17_3
          try clear hcz17_4
          try clear hcz19_0
          try clear hcz19_1
          try clear hcz19_2
          try clear hcz19_3
          try clear hcz19_4
          try clear hcz7_0
          try clear hcz7_1
          try clear hcz7_2
          try clear hcz7_3
          try clear hcz7_4
          try clear hcz9_0
          try clear hcz9_1
          try clear hcz9_2
          try clear hcz9_3
          try clear hcz9_4
          try clear hfz17_0
          try clear hfz17_1
          try clear hfz17_2
          try clear hfz17_3
          try clear hfz17_4
          try clear hfz19_0
          try clear hfz19_1
          try clear hfz19_2
          try clear hfz19_3
          try clear hfz19_4
          try clear hfz7_0
          try clear hfz7_1
          try clear hfz7_2
          try clear hfz7_3
          try clear hfz7_4
          try clear hfz9_0
          try clear hfz9_1
          try clear hfz9_2
          try clear hfz9_3
          try clear hfz9_4
          try clear p2
          obtain ⟨kq, x43_15, rfl, HA, HJ15, BK590, HB⟩ := hcut
          cases kq with
          | zero => exact absurd HA.out (by simp [sealringlaw29_FieldChecks.j1])
          | succ kj15 =>
            have H := HA.out
            clear HA
            simp only [sealringlaw29_FieldChecks.j1] at H
            by_cases c22 : x43_15 = true
            · subst c22
              have H1 : (some false) = some r := by rw [if_pos rfl] at H; exact H
              clear H
              have H := H1
              clear H1
              obtain rfl := Option.some.inj H
              go_wp2
              go_ret
              exact ⟨by first | rfl | (simp [errW_none, errW_some] <;> rfl) | (simp [*, errW_none, errW_some] <;> rfl), by repeat (first | (with_reducible first | exact HB.out | apply below_alloc | apply pw_below_drewN | apply below_drew1 | refine below_set ?_ GE590.out) | exact HB.out)⟩
            · replace c22 := Bool.eq_false_iff.mpr c22
              subst c22
              have H1 : (sealringlaw29_FieldChecks.l0 kj15 l1 (l1.length : Int) 0 a0_0 a0_1 a0_2 l0_3 l0_4) = some r := by rw [if_neg (show ¬ (false = true) by decide)] at H; exact H
              clear H
              have H := H1
              clear H1
              have H' := Aside0.mk H
              clear H
              go_wp2
              go_loopg [46] kj15 (fun kq v46 w' => ∃ (x46_3 : Int), v46 = .int .i64 x46_3 ∧ Aside0 (sealringlaw29_FieldChecks.l0 kq l1 (l1.length : Int) x46_3 a0_0 a0_1 a0_2 l0_3 l0_4 = some r) ∧ Aside0 (kq ≤ kj15) ∧ Aside0 (w'.heap[gb590]? = some (.cells #[.int .i64 a0_0, .int .i64 a0_1, .string a0_2, (.slice A0_3 l0_3.length c0_3), (.slice A0_4 l0_4.length c0_4)] 25 (0, 0))) ∧ Aside0 (Below w.heap.size w w'))
              case atStart => exact ⟨(0), (by first | rfl | (simp; done) | (simp [*]; done)), (by first | with_reducible exact H' | exact H' | (subst_vars; exact H')), ⟨Nat.le_refl _⟩, ⟨by (with_reducible repeat (first | refine blk_drewN ?_ _ | refine blk_drew ?_ | refine blk_alloc ?_ _)); exact BK590.out⟩, ⟨by repeat (first | (with_reducible first | exact HB.out | apply below_alloc | apply pw_below_drewN | apply below_drew1 | refine below_set ?_ GE590.out) | exact HB.out)⟩⟩
              case round =>
                clear H'
                try clear c1
                try clear c2
                try clear p2
                try clear c3
                try clear c6
                try clear c11
                try clear c13
                try clear c21
                try clear c21b0
                try clear c21b1
                try clear c22
                try clear hcz17_0
                try clear hcz17_1
                try clear hcz17_2
                try clear hcz17_3
                try clear hcz17_4
                try clear hcz19_0
                try clear hcz19_1
                try clear hcz19_2
                try clear hcz19_3
                try clear hcz19_4
                try clear hcz7_0
                try clear hcz7_1
                try clear hcz7_2
                try clear hcz7_3
                try clear hcz7_4
                try clear hcz9_0
                try clear hcz9_1
                try clear hcz9_2
                try clear hcz9_3
                try clear hcz9_4
                try clear hfz17_0
                try clear hfz17_1
                try clear hfz17_2
                try clear hfz17_3
                try clear hfz17_4
                try clear hfz19_0
                try clear hfz19_1
                try clear hfz19_2
                try clear hfz19_3
                try clear hfz19_4
                try clear hfz7_0
                try clear hfz7_1
                try clear hfz7_2
                try clear hfz7_3
                try clear hfz7_4
                try clear hfz9_0
                try clear hfz9_1
                try clear hfz9_2
                try clear hfz9_3
                try clear hfz9_4
                try clear p2
                obtain ⟨x46_3, rfl, HA, HK3, BK590, HB⟩ := hrel
                cases gk with
                | zero => exact absurd HA.out (by simp [sealringlaw29_FieldChecks.l0])
                | succ k3 =>
                  have H := HA.out
                  clear HA
                  simp only [sealringlaw29_FieldChecks.l0] at H
                  by_cases c23 : x46_3 < (l1.length : Int)
                  · rw [if_pos c23] at H
                    have c23b0 : decide (x46_3 < (l1.length : Int)) = true := decide_eq_true c23
                    clear c23
                    by_cases c24 : 0 ≤ x46_3
                    · rw [if_pos c24] at H
                      have c24b0 : decide (0 ≤ x46_3) = true := decide_eq_true c24
                      clear c24
                      by_cases c25 : x46_3 < (l1.length : Int)
                      · rw [if_pos c25] at H
                        have c25b0 : decide (x46_3 < (l1.length : Int)) = true := decide_eq_true c25
                        clear c25
                        replace H := Option.bind_eq_some_iff.mp H
                        obtain ⟨⟨t600, t601⟩, A260, H⟩ := H
                        replace H : ((sealringref29_Text.f k3 a0_0 a0_1 a0_2 l0_3 l0_4 ((rd_T48 l1 x46_3).f0)).bind fun bt602 => (if t600.toList = bt602.1.toList then (if (t601 != bt602.2) = true then (some false) else (sealringlaw29_FieldChecks.l0 k3 l1 (l1.length : Int) (wrap64 (x46_3 + 1)) a0_0 a0_1 a0_2 l0_3 l0_4)) else (some false))) = some r := H
                        have A26 := Aside0.mk A260
                        clear A260
                        replace H := Option.bind_eq_some_iff.mp H
                        obtain ⟨⟨t602, t603⟩, A270, H⟩ := H
                        replace H : (if t600.toList = t602.toList then (if (t601 != t603) = true then (some false) else (sealringlaw29_FieldChecks.l0 k3 l1 (l1.length : Int) (wrap64 (x46_3 + 1)) a0_0 a0_1 a0_2 l0_3 l0_4)) else (some false)) = some r := H
                        have A27 := Aside0.mk A270
                        clear A270
                        by_cases c28 : t600.toList = t602.toList
                        · rw [if_pos c28] at H
                          have c28b0 : (t600.toList == t602.toList) = true := beq_iff_eq.mpr c28
                          have c28b1 : (t600.toList != t602.toList) = false := bne_eq_false_iff_eq.mpr c28
                          clear c28
                          by_cases c29 : (t601 != t603) = true
                          · rw [if_pos c29] at H
                            have c29b0 : (t601 != t603) = true := c29
                            (try (have c29b1 : decide (t601 = t603) = false := by simpa using c29))
                            (try (have c29b2 : (t601 == t603) = false := by simpa using c29))
                            (try (have c29b3 : ¬ (t601 = t603) := by simpa using c29))
                            clear c29
                            obtain rfl := Option.some.inj H
                            have p598 : 0 ≤ (x46_3 : Int) := of_decide_eq_true (by first | (with_reducible assumption) | assumption)
                            have q598 : x46_3 < (l1.length : Int) := of_decide_eq_true (by first | (with_reducible assumption) | assumption)
                            obtain ⟨ad598, e598, hx598_0, hx598_1, hx598_2, hx598_3, hx598_4⟩ := at_T48 HR1.out x46_3 p598 q598
                            cases e598
                            (try replace hx598_0 := (HB.out.cell (World.block_lt_of_cell? w _ hx598_0)).trans hx598_0)
                            (try replace hx598_1 := (HB.out.cell (World.block_lt_of_cell? w _ hx598_1)).trans hx598_1)
                            (try replace hx598_2 := (HB.out.cell (World.block_lt_of_cell? w _ hx598_2)).trans hx598_2)
                            (try replace hx598_3 := (HB.out.cell (World.block_lt_of_cell? w _ hx598_3)).trans hx598_3)
                            (try replace hx598_4 := (HB.out.cell (World.block_lt_of_cell? w _ hx598_4)).trans hx598_4)
                            replace p598 := eq_true p598
                            replace q598 := eq_true q598
                            go_wp2_with (first | ((with_reducible refine gate_dst (N := 10) rfl ?_); (try (refine gate_guard (by rfl) ?_; dsimp only)); refine box_event ?hg (N := 10) ?hd (cs := #[.string (⟨#[]⟩ : ByteArray), .int .i64 0, .bool false, .int .i64 0, .bool false]) (t := 48) ?hr ?_; (case hd => rfl); (case hg => rfl); (case hr => first | (go_simp; done) | (go_simp; rfl)); intro gb599 hg w30 hbox hb; have n0_ := Aside0.mk (blk_below (g := gb590) (o := .cells #[.int .i64 a0_0, .int .i64 a0_1, .string a0_2, .slice A0_3 l0_3.length c0_3, .slice A0_4 l0_4.length c0_4] 25 (0, 0)) (by (with_reducible repeat (first | refine blk_drewN ?_ _ | refine blk_drew ?_ | refine blk_alloc ?_ _)); exact BK590.out) hb); have n1_ := Aside0.mk (below_step (by repeat (first | (with_reducible first | exact HB.out | apply below_alloc | apply pw_below_drewN | apply below_drew1 | refine below_set ?_ GE590.out) | exact HB.out)) hb); have n2_ := Aside0.mk (hbox); have n3_ := Aside0.mk ((by rw [hg]; exact (below_size (by repeat (first | (with_reducible first | exact HB.out | apply below_alloc | apply pw_below_drewN | apply below_drew1 | refine below_set ?_ GE590.out) | exact HB.out))) : w.heap.size ≤ gb599)); have n4_ := Aside0.mk ((by rw [hg]; exact (below_size (by repeat (first | (with_reducible first | exact HB.out | apply below_alloc | apply pw_below_drewN | apply below_drew1 | refine below_set ?_ GE590.out) | exact HB.out))) : w.heap.size ≤ gb599)); have n5_ := Aside0.mk ((by rw [hg]; exact Nat.ne_of_lt (blk_lt (g := gb590) (o := .cells #[.int .i64 a0_0, .int .i64 a0_1, .string a0_2, .slice A0_3 l0_3.length c0_3, .slice A0_4 l0_4.length c0_4] 25 (0, 0)) (by (with_reducible repeat (first | refine blk_drewN ?_ _ | refine blk_drew ?_ | refine blk_alloc ?_ _)); exact BK590.out)) : gb590 ≠ gb599)); have n6_ := Aside0.mk ((by rw [hg]; exact Nat.ne_of_gt (blk_lt (g := gb590) (o := .cells #[.int .i64 a0_0, .int .i64 a0_1, .string a0_2, .slice A0_3 l0_3.length c0_3, .slice A0_4 l0_4.length c0_4] 25 (0, 0)) (by (with_reducible repeat (first | refine blk_drewN ?_ _ | refine blk_drew ?_ | refine blk_alloc ?_ _)); exact BK590.out)) : gb599 ≠ gb590)); clear BK590; clear HB; have BK590 := n0_; have HB := n1_; have BK599 := n2_; have GW599 := n3_; have GE599 := n4_; have NB590_599 := n5_; have NB599_590 := n6_; clear n0_ n1_ n2_ n3_ n4_ n5_ n6_; clear hb hbox hg; have hnb31 := NB599_590.out; have hnc31 := NB590_599.out; have hcz32_0 : w30.cell? ⟨gb599, 0, none⟩ = some (.string (⟨#[]⟩ : ByteArray)) := (blk_cell BK599.out 0).trans rfl; have hcz32_1 : w30.cell? ⟨gb599, 1, none⟩ = some (.int .i64 0) := (blk_cell BK599.out 1).trans rfl; have hcz32_2 : w30.cell? ⟨gb599, 2, none⟩ = some (.bool false) := (blk_cell BK599.out 2).trans rfl; have hcz32_3 : w30.cell? ⟨gb599, 3, none⟩ = some (.int .i64 0) := (blk_cell BK599.out 3).trans rfl; have hcz32_4 : w30.cell? ⟨gb599, 4, none⟩ = some (.bool false) := (blk_cell BK599.out 4).trans rfl; have hfz32_0 := blk_frozen BK599.out 0; have hfz32_1 := blk_frozen BK599.out 1; have hfz32_2 := blk_frozen BK599.out 2; have hfz32_3 := blk_frozen BK599.out 3; have hfz32_4 := blk_frozen BK599.out 4; have hcz33_0 : w30.cell? ⟨gb590, 0, none⟩ = some (.int .i64 a0_0) := (blk_cell BK590.out 0).trans rfl; have hcz33_1 : w30.cell? ⟨gb590, 1, none⟩ = some (.int .i64 a0_1) := (blk_cell BK590.out 1).trans rfl; have hcz33_2 : w30.cell? ⟨gb590, 2, none⟩ = some (.string a0_2) := (blk_cell BK590.out 2).trans rfl; have hcz33_3 : w30.cell? ⟨gb590, 3, none⟩ = some (.slice A0_3 l0_3.length c0_3) := (blk_cell BK590.out 3).trans rfl; have hcz33_4 : w30.cell? ⟨gb590, 4, none⟩ = some (.slice A0_4 l0_4.length c0_4) := (blk_cell BK590.out 4).trans rfl; have hfz33_0 := blk_frozen BK590.out 0; have hfz33_1 := blk_frozen BK590.out 1; have hfz33_2 := blk_frozen BK590.out 2; have hfz33_3 := blk_frozen BK590.out 3; have hfz33_4 := blk_frozen BK590.out 4) | ((with_reducible refine gate_callee (f := 32) rfl ?_); refine goesL_ (some 54) rfl rfl Try.func32 (by kernel_rfl) rfl #[.agg #[.int .i64 a0_0, .int .i64 a0_1, .string a0_2, .slice A0_3 l0_3.length c0_3, .slice A0_4 l0_4.length c0_4], .string ((rd_T48 l1 x46_3).f0)] rfl (by (try simp only [List.map_toArray, List.map_cons, List.map_nil]); first | done | rfl | (simp only [List.length_drop, List.length_take]; rfl)) ?_; (with_reducible refine (field_Text.calls k3 a0_0 a0_1 a0_2 _ _ l0_3 _ _ l0_4 ((rd_T48 l1 x46_3).f0) t600 t601 _ ?side1 ?side2 ?side3 ?side4 A26.out).mono ?_); (case side1 => exact Kd.C_below HR0_3.out (by repeat (first | (with_reducible first | exact HB.out | apply below_alloc | apply pw_below_drewN | apply below_drew1 | refine below_set ?_ GE590.out | refine below_set ?_ GE599.out) | exact HB.out))); (case side2 => exact HC0_3.out); (case side3 => exact Kd.C_below HR0_4.out (by repeat (first | (with_reducible first | exact HB.out | apply below_alloc | apply pw_below_drewN | apply below_drew1 | refine below_set ?_ GE590.out | refine below_set ?_ GE599.out) | exact HB.out))); (case side4 => exact HC0_4.out); rintro e w34 ⟨rfl, hb⟩; refine ⟨_, rfl, ?_⟩; have n0_ := Aside0.mk (blk_below (g := gb590) (o := .cells #[.int .i64 a0_0, .int .i64 a0_1, .string a0_2, .slice A0_3 l0_3.length c0_3, .slice A0_4 l0_4.length c0_4] 25 (0, 0)) (by (with_reducible repeat (first | refine blk_drewN ?_ _ | refine blk_drew ?_ | refine blk_alloc ?_ _)); refine blk_far ?_ NB590_599.out _; (with_reducible repeat (first | refine blk_drewN ?_ _ | refine blk_drew ?_ | refine blk_alloc ?_ _)); refine blk_far ?_ NB590_599.out _; (with_reducible repeat (first | refine blk_drewN ?_ _ | refine blk_drew ?_ | refine blk_alloc ?_ _)); refine blk_far ?_ NB590_599.out _; (with_reducible repeat (first | refine blk_drewN ?_ _ | refine blk_drew ?_ | refine blk_alloc ?_ _)); refine blk_far ?_ NB590_599.out _; (with_reducible repeat (first | refine blk_drewN ?_ _ | refine blk_drew ?_ | refine blk_alloc ?_ _)); refine blk_far ?_ NB590_599.out _; (with_reducible repeat (first | refine blk_drewN ?_ _ | refine blk_drew ?_ | refine blk_alloc ?_ _)); exact BK590.out) hb); have n1_ := Aside0.mk (blk_below (g := gb599) (o := .cells #[.string ((rd_T48 l1 x46_3).f0), .int .i64 ((rd_T48 l1 x46_3).f1), .bool ((rd_T48 l1 x46_3).f2), .int .i64 ((rd_T48 l1 x46_3).f3), .bool ((rd_T48 l1 x46_3).f4)] 48 (0, 0)) (by (with_reducible repeat (first | refine blk_drewN ?_ _ | refine blk_drew ?_ | refine blk_alloc ?_ _)); refine blk_put (cs := #[.string ((rd_T48 l1 x46_3).f0), .int .i64 ((rd_T48 l1 x46_3).f1), .bool ((rd_T48 l1 x46_3).f2), .int .i64 ((rd_T48 l1 x46_3).f3), .bool false]) ?_ 4 _ rfl; (with_reducible repeat (first | refine blk_drewN ?_ _ | refine blk_drew ?_ | refine blk_alloc ?_ _)); refine blk_put (cs := #[.string ((rd_T48 l1 x46_3).f0), .int .i64 ((rd_T48 l1 x46_3).f1), .bool ((rd_T48 l1 x46_3).f2), .int .i64 0, .bool false]) ?_ 3 _ rfl; (with_reducible repeat (first | refine blk_drewN ?_ _ | refine blk_drew ?_ | refine blk_alloc ?_ _)); refine blk_put (cs := #[.string ((rd_T48 l1 x46_3).f0), .int .i64 ((rd_T48 l1 x46_3).f1), .bool false, .int .i64 0, .bool false]) ?_ 2 _ rfl; (with_reducible repeat (first | refine blk_drewN ?_ _ | refine blk_drew ?_ | refine blk_alloc ?_ _)); refine blk_put (cs := #[.string ((rd_T48 l1 x46_3).f0), .int .i64 0, .bool false, .int .i64 0, .bool false]) ?_ 1 _ rfl; (with_reducible repeat (first | refine blk_drewN ?_ _ | refine blk_drew ?_ | refine blk_alloc ?_ _)); refine blk_put (cs := #[.string (⟨#[]⟩ : ByteArray), .int .i64 0, .bool false, .int .i64 0, .bool false]) ?_ 0 _ rfl; (with_reducible repeat (first | refine blk_drewN ?_ _ | refine blk_drew ?_ | refine blk_alloc ?_ _)); exact BK599.out) hb); have n2_ := Aside0.mk (below_step (by repeat (first | (with_reducible first | exact HB.out | apply below_alloc | apply pw_below_drewN | apply below_drew1 | refine below_set ?_ GE590.out | refine below_set ?_ GE599.out) | exact HB.out)) hb); clear BK590; clear BK599; clear HB; have BK590 := n0_; have BK599 := n1_; have HB := n2_; clear n0_ n1_ n2_; (try clear hb); (try clear hb2); (try clear hk); (try clear hi); have hcz35_0 : w34.cell? ⟨gb590, 0, none⟩ = some (.int .i64 a0_0) := (blk_cell BK590.out 0).trans rfl; have hcz35_1 : w34.cell? ⟨gb590, 1, none⟩ = some (.int .i64 a0_1) := (blk_cell BK590.out 1).trans rfl; have hcz35_2 : w34.cell? ⟨gb590, 2, none⟩ = some (.string a0_2) := (blk_cell BK590.out 2).trans rfl; have hcz35_3 : w34.cell? ⟨gb590, 3, none⟩ = some (.slice A0_3 l0_3.length c0_3) := (blk_cell BK590.out 3).trans rfl; have hcz35_4 : w34.cell? ⟨gb590, 4, none⟩ = some (.slice A0_4 l0_4.length c0_4) := (blk_cell BK590.out 4).trans rfl; have hfz35_0 := blk_frozen BK590.out 0; have hfz35_1 := blk_frozen BK590.out 1; have hfz35_2 := blk_frozen BK590.out 2; have hfz35_3 := blk_frozen BK590.out 3; have hfz35_4 := blk_frozen BK590.out 4; have hcz36_0 : w34.cell? ⟨gb599, 0, none⟩ = some (.string ((rd_T48 l1 x46_3).f0)) := (blk_cell BK599.out 0).trans rfl; have hcz36_1 : w34.cell? ⟨gb599, 1, none⟩ = some (.int .i64 ((rd_T48 l1 x46_3).f1)) := (blk_cell BK599.out 1).trans rfl; have hcz36_2 : w34.cell? ⟨gb599, 2, none⟩ = some (.bool ((rd_T48 l1 x46_3).f2)) := (blk_cell BK599.out 2).trans rfl; have hcz36_3 : w34.cell? ⟨gb599, 3, none⟩ = some (.int .i64 ((rd_T48 l1 x46_3).f3)) := (blk_cell BK599.out 3).trans rfl; have hcz36_4 : w34.cell? ⟨gb599, 4, none⟩ = some (.bool ((rd_T48 l1 x46_3).f4)) := (blk_cell BK599.out 4).trans rfl; have hfz36_0 := blk_frozen BK599.out 0; have hfz36_1 := blk_frozen BK599.out 1; have hfz36_2 := blk_frozen BK599.out 2; have hfz36_3 := blk_frozen BK599.out 3; have hfz36_4 := blk_frozen BK599.out 4) | ((with_reducible refine gate_callee (f := 33) rfl ?_); refine goesL_ (some 61) rfl rfl Try.func33 (by kernel_rfl) rfl #[.agg #[.int .i64 a0_0, .int .i64 a0_1, .string a0_2, .slice A0_3 l0_3.length c0_3, .slice A0_4 l0_4.length c0_4], .string ((rd_T48 l1 x46_3).f0)] rfl (by (try simp only [List.map_toArray, List.map_cons, List.map_nil]); first | done | rfl | (simp only [List.length_drop, List.length_take]; rfl)) ?_; (with_reducible refine (sealringref29_Text.calls k3 a0_0 a0_1 a0_2 _ _ l0_3 _ _ l0_4 ((rd_T48 l1 x46_3).f0) t602 t603 _ ?side1 ?side2 ?side3 ?side4 A27.out).mono ?_); (case side1 => repeat (first | exact (Kd.C_below HR0_3.out HB.out) | (with_reducible refine Kd.C_alloc ?_ _) | (with_reducible refine Kd.C_drewN ?_ _) | (with_reducible refine Kd.C_drew ?_))); (case side2 => exact HC0_3.out); (case side3 => repeat (first | exact (Kd.C_below HR0_4.out HB.out) | (with_reducible refine Kd.C_alloc ?_ _) | (with_reducible refine Kd.C_drewN ?_ _) | (with_reducible refine Kd.C_drew ?_))); (case side4 => exact HC0_4.out); rintro e w37 ⟨rfl, hb⟩; refine ⟨_, rfl, ?_⟩; have n0_ := Aside0.mk (blk_below (g := gb590) (o := .cells #[.int .i64 a0_0, .int .i64 a0_1, .string a0_2, .slice A0_3 l0_3.length c0_3, .slice A0_4 l0_4.length c0_4] 25 (0, 0)) (by (with_reducible repeat (first | refine blk_drewN ?_ _ | refine blk_drew ?_ | refine blk_alloc ?_ _)); exact BK590.out) hb); have n1_ := Aside0.mk (blk_below (g := gb599) (o := .cells #[.string ((rd_T48 l1 x46_3).f0), .int .i64 ((rd_T48 l1 x46_3).f1), .bool ((rd_T48 l1 x46_3).f2), .int .i64 ((rd_T48 l1 x46_3).f3), .bool ((rd_T48 l1 x46_3).f4)] 48 (0, 0)) (by (with_reducible repeat (first | refine blk_drewN ?_ _ | refine blk_drew ?_ | refine blk_alloc ?_ _)); exact BK599.out) hb); have n2_ := Aside0.mk (below_step (by repeat (first | (with_reducible first | exact HB.out | apply below_alloc | apply pw_below_drewN | apply below_drew1 | refine below_set ?_ GE590.out | refine below_set ?_ GE599.out) | exact HB.out)) hb); clear BK590; clear BK599; clear HB; have BK590 := n0_; have BK599 := n1_; have HB := n2_; clear n0_ n1_ n2_; (try clear hb); (try clear hb2); (try clear hk); (try clear hi)))
                            go_ret
                            exact ⟨by first | rfl | (simp [errW_none, errW_some] <;> rfl) | (simp [*, errW_none, errW_some] <;> rfl), by repeat (first | (with_reducible first | exact HB.out | apply below_alloc | apply pw_below_drewN | apply below_drew1 | refine below_set ?_ GE590.out | refine below_set ?_ GE599.out) | exact HB.out)⟩
                          · rw [if_neg c29] at H
                            have c29b0 : (t601 != t603) = false := by simpa using c29
                            (try (have c29b1 : decide (t601 = t603) = true := by simpa using c29))
                            (try (have c29b2 : (t601 == t603) = true := by simpa using c29))
                            clear c29
                            have H' := Aside0.mk H
                            clear H
                            have p598 : 0 ≤ (x46_3 : Int) := of_decide_eq_true (by first | (with_reducible assumption) | assumption)
                            have q598 : x46_3 < (l1.length : Int) := of_decide_eq_true (by first | (with_reducible assumption) | assumption)
                            obtain ⟨ad598, e598, hx598_0, hx598_1, hx598_2, hx598_3, hx598_4⟩ := at_T48 HR1.out x46_3 p598 q598
                            cases e598
                            (try replace hx598_0 := (HB.out.cell (World.block_lt_of_cell? w _ hx598_0)).trans hx598_0)
                            (try replace hx598_1 := (HB.out.cell (World.block_lt_of_cell? w _ hx598_1)).trans hx598_1)
                            (try replace hx598_2 := (HB.out.cell (World.block_lt_of_cell? w _ hx598_2)).trans hx598_2)
                            (try replace hx598_3 := (HB.out.cell (World.block_lt_of_cell? w _ hx598_3)).trans hx598_3)
                            (try replace hx598_4 := (HB.out.cell (World.block_lt_of_cell? w _ hx598_4)).trans hx598_4)
                            replace p598 := eq_true p598
                            replace q598 := eq_true q598
                            go_wp2_with (first | ((with_reducible refine gate_dst (N := 10) rfl ?_); (try (refine gate_guard (by rfl) ?_; dsimp only)); refine box_event ?hg (N := 10) ?hd (cs := #[.string (⟨#[]⟩ : ByteArray), .int .i64 0, .bool false, .int .i64 0, .bool false]) (t := 48) ?hr ?_; (case hd => rfl); (case hg => rfl); (case hr => first | (go_simp; done) | (go_simp; rfl)); intro gb599 hg w38 hbox hb; have n0_ := Aside0.mk (blk_below (g := gb590) (o := .cells #[.int .i64 a0_0, .int .i64 a0_1, .string a0_2, .slice A0_3 l0_3.length c0_3, .slice A0_4 l0_4.length c0_4] 25 (0, 0)) (by (with_reducible repeat (first | refine blk_drewN ?_ _ | refine blk_drew ?_ | refine blk_alloc ?_ _)); exact BK590.out) hb); have n1_ := Aside0.mk (below_step (by repeat (first | (with_reducible first | exact HB.out | apply below_alloc | apply pw_below_drewN | apply below_drew1 | refine below_set ?_ GE590.out) | exact HB.out)) hb); have n2_ := Aside0.mk (hbox); have n3_ := Aside0.mk ((by rw [hg]; exact (below_size (by repeat (first | (with_reducible first | exact HB.out | apply below_alloc | apply pw_below_drewN | apply below_drew1 | refine below_set ?_ GE590.out) | exact HB.out))) : w.heap.size ≤ gb599)); have n4_ := Aside0.mk ((by rw [hg]; exact (below_size (by repeat (first | (with_reducible first | exact HB.out | apply below_alloc | apply pw_below_drewN | apply below_drew1 | refine below_set ?_ GE590.out) | exact HB.out))) : w.heap.size ≤ gb599)); have n5_ := Aside0.mk ((by rw [hg]; exact Nat.ne_of_lt (blk_lt (g := gb590) (o := .cells #[.int .i64 a0_0, .int .i64 a0_1, .string a0_2, .slice A0_3 l0_3.length c0_3, .slice A0_4 l0_4.length c0_4] 25 (0, 0)) (by (with_reducible repeat (first | refine blk_drewN ?_ _ | refine blk_drew ?_ | refine blk_alloc ?_ _)); exact BK590.out)) : gb590 ≠ gb599)); have n6_ := Aside0.mk ((by rw [hg]; exact Nat.ne_of_gt (blk_lt (g := gb590) (o := .cells #[.int .i64 a0_0, .int .i64 a0_1, .string a0_2, .slice A0_3 l0_3.length c0_3, .slice A0_4 l0_4.length c0_4] 25 (0, 0)) (by (with_reducible repeat (first | refine blk_drewN ?_ _ | refine blk_drew ?_ | refine blk_alloc ?_ _)); exact BK590.out)) : gb599 ≠ gb590)); clear BK590; clear HB; have BK590 := n0_; have HB := n1_; have BK599 := n2_; have GW599 := n3_; have GE599 := n4_; have NB590_599 := n5_; have NB599_590 := n6_; clear n0_ n1_ n2_ n3_ n4_ n5_ n6_; clear hb hbox hg; have hnb39 := NB599_590.out; have hnc39 := NB590_599.out; have hcz40_0 : w38.cell? ⟨gb599, 0, none⟩ = some (.string (⟨#[]⟩ : ByteArray)) := (blk_cell BK599.out 0).trans rfl; have hcz40_1 : w38.cell? ⟨gb599, 1, none⟩ = some (.int .i64 0) := (blk_cell BK599.out 1).trans rfl; have hcz40_2 : w38.cell? ⟨gb599, 2, none⟩ = some (.bool false) := (blk_cell BK599.out 2).trans rfl; have hcz40_3 : w38.cell? ⟨gb599, 3, none⟩ = some (.int .i64 0) := (blk_cell BK599.out 3).trans rfl; have hcz40_4 : w38.cell? ⟨gb599, 4, none⟩ = some (.bool false) := (blk_cell BK599.out 4).trans rfl; have hfz40_0 := blk_frozen BK599.out 0; have hfz40_1 := blk_frozen BK599.out 1; have hfz40_2 := blk_frozen BK599.out 2; have hfz40_3 := blk_frozen BK599.out 3; have hfz40_4 := blk_frozen BK599.out 4; have hcz41_0 : w38.cell? ⟨gb590, 0, none⟩ = some (.int .i64 a0_0) := (blk_cell BK590.out 0).trans rfl; have hcz41_1 : w38.cell? ⟨gb590, 1, none⟩ = some (.int .i64 a0_1) := (blk_cell BK590.out 1).trans rfl; have hcz41_2 : w38.cell? ⟨gb590, 2, none⟩ = some (.string a0_2) := (blk_cell BK590.out 2).trans rfl; have hcz41_3 : w38.cell? ⟨gb590, 3, none⟩ = some (.slice A0_3 l0_3.length c0_3) := (blk_cell BK590.out 3).trans rfl; have hcz41_4 : w38.cell? ⟨gb590, 4, none⟩ = some (.slice A0_4 l0_4.length c0_4) := (blk_cell BK590.out 4).trans rfl; have hfz41_0 := blk_frozen BK590.out 0; have hfz41_1 := blk_frozen BK590.out 1; have hfz41_2 := blk_frozen BK590.out 2; have hfz41_3 := blk_frozen BK590.out 3; have hfz41_4 := blk_frozen BK590.out 4) | ((with_reducible refine gate_callee (f := 32) rfl ?_); refine goesL_ (some 54) rfl rfl Try.func32 (by kernel_rfl) rfl #[.agg #[.int .i64 a0_0, .int .i64 a0_1, .string a0_2, .slice A0_3 l0_3.length c0_3, .slice A0_4 l0_4.length c0_4], .string ((rd_T48 l1 x46_3).f0)] rfl (by (try simp only [List.map_toArray, List.map_cons, List.map_nil]); first | done | rfl | (simp only [List.length_drop, List.length_take]; rfl)) ?_; (with_reducible refine (field_Text.calls k3 a0_0 a0_1 a0_2 _ _ l0_3 _ _ l0_4 ((rd_T48 l1 x46_3).f0) t600 t601 _ ?side1 ?side2 ?side3 ?side4 A26.out).mono ?_); (case side1 => exact Kd.C_below HR0_3.out (by repeat (first | (with_reducible first | exact HB.out | apply below_alloc | apply pw_below_drewN | apply below_drew1 | refine below_set ?_ GE590.out | refine below_set ?_ GE599.out) | exact HB.out))); (case side2 => exact HC0_3.out); (case side3 => exact Kd.C_below HR0_4.out (by repeat (first | (with_reducible first | exact HB.out | apply below_alloc | apply pw_below_drewN | apply below_drew1 | refine below_set ?_ GE590.out | refine below_set ?_ GE599.out) | exact HB.out))); (case side4 => exact HC0_4.out); rintro e w42 ⟨rfl, hb⟩; refine ⟨_, rfl, ?_⟩; have n0_ := Aside0.mk (blk_below (g := gb590) (o := .cells #[.int .i64 a0_0, .int .i64 a0_1, .string a0_2, .slice A0_3 l0_3.length c0_3, .slice A0_4 l0_4.length c0_4] 25 (0, 0)) (by (with_reducible repeat (first | refine blk_drewN ?_ _ | refine blk_drew ?_ | refine blk_alloc ?_ _)); refine blk_far ?_ NB590_599.out _; (with_reducible repeat (first | refine blk_drewN ?_ _ | refine blk_drew ?_ | refine blk_alloc ?_ _)); refine blk_far ?_ NB590_599.out _; (with_reducible repeat (first | refine blk_drewN ?_ _ | refine blk_drew ?_ | refine blk_alloc ?_ _)); refine blk_far ?_ NB590_599.out _; (with_reducible repeat (first | refine blk_drewN ?_ _ | refine blk_drew ?_ | refine blk_alloc ?_ _)); refine blk_far ?_ NB590_599.out _; (with_reducible repeat (first | refine blk_drewN ?_ _ | refine blk_drew ?_ | refine blk_alloc ?_ _)); refine blk_far ?_ NB590_599.out _; (with_reducible repeat (first | refine blk_drewN ?_ _ | refine blk_drew ?_ | refine blk_alloc ?_ _)); exact BK590.out) hb); have n1_ := Aside0.mk (blk_below (g := gb599) (o := .cells #[.string ((rd_T48 l1 x46_3).f0), .int .i64 ((rd_T48 l1 x46_3).f1), .bool ((rd_T48 l1 x46_3).f2), .int .i64 ((rd_T48 l1 x46_3).f3), .bool ((rd_T48 l1 x46_3).f4)] 48 (0, 0)) (by (with_reducible repeat (first | refine blk_drewN ?_ _ | refine blk_drew ?_ | refine blk_alloc ?_ _)); refine blk_put (cs := #[.string ((rd_T48 l1 x46_3).f0), .int .i64 ((rd_T48 l1 x46_3).f1), .bool ((rd_T48 l1 x46_3).f2), .int .i64 ((rd_T48 l1 x46_3).f3), .bool false]) ?_ 4 _ rfl; (with_reducible repeat (first | refine blk_drewN ?_ _ | refine blk_drew ?_ | refine blk_alloc ?_ _)); refine blk_put (cs := #[.string ((rd_T48 l1 x46_3).f0), .int .i64 ((rd_T48 l1 x46_3).f1), .bool ((rd_T48 l1 x46_3).f2), .int .i64 0, .bool false]) ?_ 3 _ rfl; (with_reducible repeat (first | refine blk_drewN ?_ _ | refine blk_drew ?_ | refine blk_alloc ?_ _)); refine blk_put (cs := #[.string ((rd_T48 l1 x46_3).f0), .int .i64 ((rd_T48 l1 x46_3).f1), .bool false, .int .i64 0, .bool false]) ?_ 2 _ rfl; (with_reducible repeat (first | refine blk_drewN ?_ _ | refine blk_drew ?_ | refine blk_alloc ?_ _)); refine blk_put (cs := #[.string ((rd_T48 l1 x46_3).f0), .int .i64 0, .bool false, .int .i64 0, .bool false]) ?_ 1 _ rfl; (with_reducible repeat (first | refine blk_drewN ?_ _ | refine blk_drew ?_ | refine blk_alloc ?_ _)); refine blk_put (cs := #[.string (⟨#[]⟩ : ByteArray), .int .i64 0, .bool false, .int .i64 0, .bool false]) ?_ 0 _ rfl; (with_reducible repeat (first | refine blk_drewN ?_ _ | refine blk_drew ?_ | refine blk_alloc ?_ _)); exact BK599.out) hb); have n2_ := Aside0.mk (below_step (by repeat (first | (with_reducible first | exact HB.out | apply below_alloc | apply pw_below_drewN | apply below_drew1 | refine below_set ?_ GE590.out | refine below_set ?_ GE599.out) | exact HB.out)) hb); clear BK590; clear BK599; clear HB; have BK590 := n0_; have BK599 := n1_; have HB := n2_; clear n0_ n1_ n2_; (try clear hb); (try clear hb2); (try clear hk); (try clear hi); have hcz43_0 : w42.cell? ⟨gb590, 0, none⟩ = some (.int .i64 a0_0) := (blk_cell BK590.out 0).trans rfl; have hcz43_1 : w42.cell? ⟨gb590, 1, none⟩ = some (.int .i64 a0_1) := (blk_cell BK590.out 1).trans rfl; have hcz43_2 : w42.cell? ⟨gb590, 2, none⟩ = some (.string a0_2) := (blk_cell BK590.out 2).trans rfl; have hcz43_3 : w42.cell? ⟨gb590, 3, none⟩ = some (.slice A0_3 l0_3.length c0_3) := (blk_cell BK590.out 3).trans rfl; have hcz43_4 : w42.cell? ⟨gb590, 4, none⟩ = some (.slice A0_4 l0_4.length c0_4) := (blk_cell BK590.out 4).trans rfl; have hfz43_0 := blk_frozen BK590.out 0; have hfz43_1 := blk_frozen BK590.out 1; have hfz43_2 := blk_frozen BK590.out 2; have hfz43_3 := blk_frozen BK590.out 3; have hfz43_4 := blk_frozen BK590.out 4; have hcz44_0 : w42.cell? ⟨gb599, 0, none⟩ = some (.string ((rd_T48 l1 x46_3).f0)) := (blk_cell BK599.out 0).trans rfl; have hcz44_1 : w42.cell? ⟨gb599, 1, none⟩ = some (.int .i64 ((rd_T48 l1 x46_3).f1)) := (blk_cell BK599.out 1).trans rfl; have hcz44_2 : w42.cell? ⟨gb599, 2, none⟩ = some (.bool ((rd_T48 l1 x46_3).f2)) := (blk_cell BK599.out 2).trans rfl; have hcz44_3 : w42.cell? ⟨gb599, 3, none⟩ = some (.int .i64 ((rd_T48 l1 x46_3).f3)) := (blk_cell BK599.out 3).trans rfl; have hcz44_4 : w42.cell? ⟨gb599, 4, none⟩ = some (.bool ((rd_T48 l1 x46_3).f4)) := (blk_cell BK599.out 4).trans rfl; have hfz44_0 := blk_frozen BK599.out 0; have hfz44_1 := blk_frozen BK599.out 1; have hfz44_2 := blk_frozen BK599.out 2; have hfz44_3 := blk_frozen BK599.out 3; have hfz44_4 := blk_frozen BK599.out 4) | ((with_reducible refine gate_callee (f := 33) rfl ?_); refine goesL_ (some 61) rfl rfl Try.func33 (by kernel_rfl) rfl #[.agg #[.int .i64 a0_0, .int .i64 a0_1, .string a0_2, .slice A0_3 l0_3.length c0_3, .slice A0_4 l0_4.length c0_4], .string ((rd_T48 l1 x46_3).f0)] rfl (by (try simp only [List.map_toArray, List.map_cons, List.map_nil]); first | done | rfl | (simp only [List.length_drop, List.length_take]; rfl)) ?_; (with_reducible refine (sealringref29_Text.calls k3 a0_0 a0_1 a0_2 _ _ l0_3 _ _ l0_4 ((rd_T48 l1 x46_3).f0) t602 t603 _ ?side1 ?side2 ?side3 ?side4 A27.out).mono ?_); (case side1 => repeat (first | exact (Kd.C_below HR0_3.out HB.out) | (with_reducible refine Kd.C_alloc ?_ _) | (with_reducible refine Kd.C_drewN ?_ _) | (with_reducible refine Kd.C_drew ?_))); (case side2 => exact HC0_3.out); (case side3 => repeat (first | exact (Kd.C_below HR0_4.out HB.out) | (with_reducible refine Kd.C_alloc ?_ _) | (with_reducible refine Kd.C_drewN ?_ _) | (with_reducible refine Kd.C_drew ?_))); (case side4 => exact HC0_4.out); rintro e w45 ⟨rfl, hb⟩; refine ⟨_, rfl, ?_⟩; have n0_ := Aside0.mk (blk_below (g := gb590) (o := .cells #[.int .i64 a0_0, .int .i64 a0_1, .string a0_2, .slice A0_3 l0_3.length c0_3, .slice A0_4 l0_4.length c0_4] 25 (0, 0)) (by (with_reducible repeat (first | refine blk_drewN ?_ _ | refine blk_drew ?_ | refine blk_alloc ?_ _)); exact BK590.out) hb); have n1_ := Aside0.mk (blk_below (g := gb599) (o := .cells #[.string ((rd_T48 l1 x46_3).f0), .int .i64 ((rd_T48 l1 x46_3).f1), .bool ((rd_T48 l1 x46_3).f2), .int .i64 ((rd_T48 l1 x46_3).f3), .bool ((rd_T48 l1 x46_3).f4)] 48 (0, 0)) (by (with_reducible repeat (first | refine blk_drewN ?_ _ | refine blk_drew ?_ | refine blk_alloc ?_ _)); exact BK599.out) hb); have n2_ := Aside0.mk (below_step (by repeat (first | (with_reducible first | exact HB.out | apply below_alloc | apply pw_below_drewN | apply below_drew1 | refine below_set ?_ GE590.out | refine below_set ?_ GE599.out) | exact HB.out)) hb); clear BK590; clear BK599; clear HB; have BK590 := n0_; have BK599 := n1_; have HB := n2_; clear n0_ n1_ n2_; (try clear hb); (try clear hb2); (try clear hk); (try clear hi)))
                            go_roundg k3
                            case measure => have := HJ2.out; have := HJ15.out; have := HK3.out; omega
                            case rel => exact ⟨(wrap64 (x46_3 + 1)), (by first | rfl | (simp; done) | (simp [*]; done)), (by first | with_reducible exact H' | exact H' | (subst_vars; exact H')), ⟨by have := HJ2.out; have := HJ15.out; have := HK3.out; omega⟩, ⟨by (with_reducible repeat (first | refine blk_drewN ?_ _ | refine blk_drew ?_ | refine blk_alloc ?_ _)); exact BK590.out⟩, ⟨by repeat (first | (with_reducible first | exact HB.out | apply below_alloc | apply pw_below_drewN | apply below_drew1 | refine below_set ?_ GE590.out | refine below_set ?_ GE599.out) | exact HB.out)⟩⟩
                        · rw [if_neg c28] at H
                          have c28b0 : (t600.toList == t602.toList) = false := beq_eq_false_iff_ne.mpr c28
                          have c28b1 : (t600.toList != t602.toList) = true := bne_iff_ne.mpr c28
                          obtain rfl := Option.some.inj H
                          have p598 : 0 ≤ (x46_3 : Int) := of_decide_eq_true (by first | (with_reducible assumption) | assumption)
                          have q598 : x46_3 < (l1.length : Int) := of_decide_eq_true (by first | (with_reducible assumption) | assumption)
                          obtain ⟨ad598, e598, hx598_0, hx598_1, hx598_2, hx598_3, hx598_4⟩ := at_T48 HR1.out x46_3 p598 q598
                          cases e598
                          (try replace hx598_0 := (HB.out.cell (World.block_lt_of_cell? w _ hx598_0)).trans hx598_0)
                          (try replace hx598_1 := (HB.out.cell (World.block_lt_of_cell? w _ hx598_1)).trans hx598_1)
                          (try replace hx598_2 := (HB.out.cell (World.block_lt_of_cell? w _ hx598_2)).trans hx598_2)
                          (try replace hx598_3 := (HB.out.cell (World.block_lt_of_cell? w _ hx598_3)).trans hx598_3)
                          (try replace hx598_4 := (HB.out.cell (World.block_lt_of_cell? w _ hx598_4)).trans hx598_4)
                          replace p598 := eq_true p598
                          replace q598 := eq_true q598
                          go_wp2_with (first | ((with_reducible refine gate_dst (N := 10) rfl ?_); (try (refine gate_guard (by rfl) ?_; dsimp only)); refine box_event ?hg (N := 10) ?hd (cs := #[.string (⟨#[]⟩ : ByteArray), .int .i64 0, .bool false, .int .i64 0, .bool false]) (t := 48) ?hr ?_; (case hd => rfl); (case hg => rfl); (case hr => first | (go_simp; done) | (go_simp; rfl)); intro gb599 hg w46 hbox hb; have n0_ := Aside0.mk (blk_below (g := gb590) (o := .cells #[.int .i64 a0_0, .int .i64 a0_1, .string a0_2, .slice A0_3 l0_3.length c0_3, .slice A0_4 l0_4.length c0_4] 25 (0, 0)) (by (with_reducible repeat (first | refine blk_drewN ?_ _ | refine blk_drew ?_ | refine blk_alloc ?_ _)); exact BK590.out) hb); have n1_ := Aside0.mk (below_step (by repeat (first | (with_reducible first | exact HB.out | apply below_alloc | apply pw_below_drewN | apply below_drew1 | refine below_set ?_ GE590.out) | exact HB.out)) hb); have n2_ := Aside0.mk (hbox); have n3_ := Aside0.mk ((by rw [hg]; exact (below_size (by repeat (first | (with_reducible first | exact HB.out | apply below_alloc | apply pw_below_drewN | apply below_drew1 | refine below_set ?_ GE590.out) | exact HB.out))) : w.heap.size ≤ gb599)); have n4_ := Aside0.mk ((by rw [hg]; exact (below_size (by repeat (first | (with_reducible first | exact HB.out | apply below_alloc | apply pw_below_drewN | apply below_drew1 | refine below_set ?_ GE590.out) | exact HB.out))) : w.heap.size ≤ gb599)); have n5_ := Aside0.mk ((by rw [hg]; exact Nat.ne_of_lt (blk_lt (g := gb590) (o := .cells #[.int .i64 a0_0, .int .i64 a0_1, .string a0_2, .slice A0_3 l0_3.length c0_3, .slice A0_4 l0_4.length c0_4] 25 (0, 0)) (by (with_reducible repeat (first | refine blk_drewN ?_ _ | refine blk_drew ?_ | refine blk_alloc ?_ _)); exact BK590.out)) : gb590 ≠ gb599)); have n6_ := Aside0.mk ((by rw [hg]; exact Nat.ne_of_gt (blk_lt (g := gb590) (o := .cells #[.int .i64 a0_0, .int .i64 a0_1, .string a0_2, .slice A0_3 l0_3.length c0_3, .slice A0_4 l0_4.length c0_4] 25 (0, 0)) (by (with_reducible repeat (first | refine blk_drewN ?_ _ | refine blk_drew ?_ | refine blk_alloc ?_ _)); exact BK590.out)) : gb599 ≠ gb590)); clear BK590; clear HB; have BK590 := n0_; have HB := n1_; have BK599 := n2_; have GW599 := n3_; have GE599 := n4_; have NB590_599 := n5_; have NB599_590 := n6_; clear n0_ n1_ n2_ n3_ n4_ n5_ n6_; clear hb hbox hg; have hnb47 := NB599_590.out; have hnc47 := NB590_599.out; have hcz48_0 : w46.cell? ⟨gb599, 0, none⟩ = some (.string (⟨#[]⟩ : ByteArray)) := (blk_cell BK599.out 0).trans rfl; have hcz48_1 : w46.cell? ⟨gb599, 1, none⟩ = some (.int .i64 0) := (blk_cell BK599.out 1).trans rfl; have hcz48_2 : w46.cell? ⟨gb599, 2, none⟩ = some (.bool false) := (blk_cell BK599.out 2).trans rfl; have hcz48_3 : w46.cell? ⟨gb599, 3, none⟩ = some (.int .i64 0) := (blk_cell BK599.out 3).trans rfl; have hcz48_4 : w46.cell? ⟨gb599, 4, none⟩ = some (.bool false) := (blk_cell BK599.out 4).trans rfl; have hfz48_0 := blk_frozen BK599.out 0; have hfz48_1 := blk_frozen BK599.out 1; have hfz48_2 := blk_frozen BK599.out 2; have hfz48_3 := blk_frozen BK599.out 3; have hfz48_4 := blk_frozen BK599.out 4; have hcz49_0 : w46.cell? ⟨gb590, 0, none⟩ = some (.int .i64 a0_0) := (blk_cell BK590.out 0).trans rfl; have hcz49_1 : w46.cell? ⟨gb590, 1, none⟩ = some (.int .i64 a0_1) := (blk_cell BK590.out 1).trans rfl; have hcz49_2 : w46.cell? ⟨gb590, 2, none⟩ = some (.string a0_2) := (blk_cell BK590.out 2).trans rfl; have hcz49_3 : w46.cell? ⟨gb590, 3, none⟩ = some (.slice A0_3 l0_3.length c0_3) := (blk_cell BK590.out 3).trans rfl; have hcz49_4 : w46.cell? ⟨gb590, 4, none⟩ = some (.slice A0_4 l0_4.length c0_4) := (blk_cell BK590.out 4).trans rfl; have hfz49_0 := blk_frozen BK590.out 0; have hfz49_1 := blk_frozen BK590.out 1; have hfz49_2 := blk_frozen BK590.out 2; have hfz49_3 := blk_frozen BK590.out 3; have hfz49_4 := blk_frozen BK590.out 4) | ((with_reducible refine gate_callee (f := 32) rfl ?_); refine goesL_ (some 54) rfl rfl Try.func32 (by kernel_rfl) rfl #[.agg #[.int .i64 a0_0, .int .i64 a0_1, .string a0_2, .slice A0_3 l0_3.length c0_3, .slice A0_4 l0_4.length c0_4], .string ((rd_T48 l1 x46_3).f0)] rfl (by (try simp only [List.map_toArray, List.map_cons, List.map_nil]); first | done | rfl | (simp only [List.length_drop, List.length_take]; rfl)) ?_; (with_reducible refine (field_Text.calls k3 a0_0 a0_1 a0_2 _ _ l0_3 _ _ l0_4 ((rd_T48 l1 x46_3).f0) t600 t601 _ ?side1 ?side2 ?side3 ?side4 A26.out).mono ?_); (case side1 => exact Kd.C_below HR0_3.out (by repeat (first | (with_reducible first | exact HB.out | apply below_alloc | apply pw_below_drewN | apply below_drew1 | refine below_set ?_ GE590.out | refine below_set ?_ GE599.out) | exact HB.out))); (case side2 => exact HC0_3.out); (case side3 => exact Kd.C_below HR0_4.out (by repeat (first | (with_reducible first | exact HB.out | apply below_alloc | apply pw_below_drewN | apply below_drew1 | refine below_set ?_ GE590.out | refine below_set ?_ GE599.out) | exact HB.out))); (case side4 => exact HC0_4.out); rintro e w50 ⟨rfl, hb⟩; refine ⟨_, rfl, ?_⟩; have n0_ := Aside0.mk (blk_below (g := gb590) (o := .cells #[.int .i64 a0_0, .int .i64 a0_1, .string a0_2, .slice A0_3 l0_3.length c0_3, .slice A0_4 l0_4.length c0_4] 25 (0, 0)) (by (with_reducible repeat (first | refine blk_drewN ?_ _ | refine blk_drew ?_ | refine blk_alloc ?_ _)); refine blk_far ?_ NB590_599.out _; (with_reducible repeat (first | refine blk_drewN ?_ _ | refine blk_drew ?_ | refine blk_alloc ?_ _)); refine blk_far ?_ NB590_599.out _; (with_reducible repeat (first | refine blk_drewN ?_ _ | refine blk_drew ?_ | refine blk_alloc ?_ _)); refine blk_far ?_ NB590_599.out _; (with_reducible repeat (first | refine blk_drewN ?_ _ | refine blk_drew ?_ | refine blk_alloc ?_ _)); refine blk_far ?_ NB590_599.out _; (with_reducible repeat (first | refine blk_drewN ?_ _ | refine blk_drew ?_ | refine blk_alloc ?_ _)); refine blk_far ?_ NB590_599.out _; (with_reducible repeat (first | refine blk_drewN ?_ _ | refine blk_drew ?_ | refine blk_alloc ?_ _)); exact BK590.out) hb); have n1_ := Aside0.mk (blk_below (g := gb599) (o := .cells #[.string ((rd_T48 l1 x46_3).f0), .int .i64 ((rd_T48 l1 x46_3).f1), .bool ((rd_T48 l1 x46_3).f2), .int .i64 ((rd_T48 l1 x46_3).f3), .bool ((rd_T48 l1 x46_3).f4)] 48 (0, 0)) (by (with_reducible repeat (first | refine blk_drewN ?_ _ | refine blk_drew ?_ | refine blk_alloc ?_ _)); refine blk_put (cs := #[.string ((rd_T48 l1 x46_3).f0), .int .i64 ((rd_T48 l1 x46_3).f1), .bool ((rd_T48 l1 x46_3).f2), .int .i64 ((rd_T48 l1 x46_3).f3), .bool false]) ?_ 4 _ rfl; (with_reducible repeat (first | refine blk_drewN ?_ _ | refine blk_drew ?_ | refine blk_alloc ?_ _)); refine blk_put (cs := #[.string ((rd_T48 l1 x46_3).f0), .int .i64 ((rd_T48 l1 x46_3).f1), .bool ((rd_T48 l1 x46_3).f2), .int .i64 0, .bool false]) ?_ 3 _ rfl; (with_reducible repeat (first | refine blk_drewN ?_ _ | refine blk_drew ?_ | refine blk_alloc ?_ _)); refine blk_put (cs := #[.string ((rd_T48 l1 x46_3).f0), .int .i64 ((rd_T48 l1 x46_3).f1), .bool false, .int .i64 0, .bool false]) ?_ 2 _ rfl; (with_reducible repeat (first | refine blk_drewN ?_ _ | refine blk_drew ?_ | refine blk_alloc ?_ _)); refine blk_put (cs := #[.string ((rd_T48 l1 x46_3).f0), .int .i64 0, .bool false, .int .i64 0, .bool false]) ?_ 1 _ rfl; (with_reducible repeat (first | refine blk_drewN ?_ _ | refine blk_drew ?_ | refine blk_alloc ?_ _)); refine blk_put (cs := #[.string (⟨#[]⟩ : ByteArray), .int .i64 0, .bool false, .int .i64 0, .bool false]) ?_ 0 _ rfl; (with_reducible repeat (first | refine blk_drewN ?_ _ | refine blk_drew ?_ | refine blk_alloc ?_ _)); exact BK599.out) hb); have n2_ := Aside0.mk (below_step (by repeat (first | (with_reducible first | exact HB.out | apply below_alloc | apply pw_below_drewN | apply below_drew1 | refine below_set ?_ GE590.out | refine below_set ?_ GE599.out) | exact HB.out)) hb); clear BK590; clear BK599; clear HB; have BK590 := n0_; have BK599 := n1_; have HB := n2_; clear n0_ n1_ n2_; (try clear hb); (try clear hb2); (try clear hk); (try clear hi); have hcz51_0 : w50.cell? ⟨gb590, 0, none⟩ = some (.int .i64 a0_0) := (blk_cell BK590.out 0).trans rfl; have hcz51_1 : w50.cell? ⟨gb590, 1, none⟩ = some (.int .i64 a0_1) := (blk_cell BK590.out 1).trans rfl; have hcz51_2 : w50.cell? ⟨gb590, 2, none⟩ = some (.string a0_2) := (blk_cell BK590.out 2).trans rfl; have hcz51_3 : w50.cell? ⟨gb590, 3, none⟩ = some (.slice A0_3 l0_3.length c0_3) := (blk_cell BK590.out 3).trans rfl; have hcz51_4 : w50.cell? ⟨gb590, 4, none⟩ = some (.slice A0_4 l0_4.length c0_4) := (blk_cell BK590.out 4).trans rfl; have hfz51_0 := blk_frozen BK590.out 0; have hfz51_1 := blk_frozen BK590.out 1; have hfz51_2 := blk_frozen BK590.out 2; have hfz51_3 := blk_frozen BK590.out 3; have hfz51_4 := blk_frozen BK590.out 4; have hcz52_0 : w50.cell? ⟨gb599, 0, none⟩ = some (.string ((rd_T48 l1 x46_3).f0)) := (blk_cell BK599.out 0).trans rfl; have hcz52_1 : w50.cell? ⟨gb599, 1, none⟩ = some (.int .i64 ((rd_T48 l1 x46_3).f1)) := (blk_cell BK599.out 1).trans rfl; have hcz52_2 : w50.cell? ⟨gb599, 2, none⟩ = some (.bool ((rd_T48 l1 x46_3).f2)) := (blk_cell BK599.out 2).trans rfl; have hcz52_3 : w50.cell? ⟨gb599, 3, none⟩ = some (.int .i64 ((rd_T48 l1 x46_3).f3)) := (blk_cell BK599.out 3).trans rfl; have hcz52_4 : w50.cell? ⟨gb599, 4, none⟩ = some (.bool ((rd_T48 l1 x46_3).f4)) := (blk_cell BK599.out 4).trans rfl; have hfz52_0 := blk_frozen BK599.out 0; have hfz52_1 := blk_frozen BK599.out 1; have hfz52_2 := blk_frozen BK599.out 2; have hfz52_3 := blk_frozen BK599.out 3; have hfz52_4 := blk_frozen BK599.out 4) | ((with_reducible refine gate_callee (f := 33) rfl ?_); refine goesL_ (some 61) rfl rfl Try.func33 (by kernel_rfl) rfl #[.agg #[.int .i64 a0_0, .int .i64 a0_1, .string a0_2, .slice A0_3 l0_3.length c0_3, .slice A0_4 l0_4.length c0_4], .string ((rd_T48 l1 x46_3).f0)] rfl (by (try simp only [List.map_toArray, List.map_cons, List.map_nil]); first | done | rfl | (simp only [List.length_drop, List.length_take]; rfl)) ?_; (with_reducible refine (sealringref29_Text.calls k3 a0_0 a0_1 a0_2 _ _ l0_3 _ _ l0_4 ((rd_T48 l1 x46_3).f0) t602 t603 _ ?side1 ?side2 ?side3 ?side4 A27.out).mono ?_); (case side1 => repeat (first | exact (Kd.C_below HR0_3.out HB.out) | (with_reducible refine Kd.C_alloc ?_ _) | (with_reducible refine Kd.C_drewN ?_ _) | (with_reducible refine Kd.C_drew ?_))); (case side2 => exact HC0_3.out); (case side3 => repeat (first | exact (Kd.C_below HR0_4.out HB.out) | (with_reducible refine Kd.C_alloc ?_ _) | (with_reducible refine Kd.C_drewN ?_ _) | (with_reducible refine Kd.C_drew ?_))); (case side4 => exact HC0_4.out); rintro e w53 ⟨rfl, hb⟩; refine ⟨_, rfl, ?_⟩; have n0_ := Aside0.mk (blk_below (g := gb590) (o := .cells #[.int .i64 a0_0, .int .i64 a0_1, .string a0_2, .slice A0_3 l0_3.length c0_3, .slice A0_4 l0_4.length c0_4] 25 (0, 0)) (by (with_reducible repeat (first | refine blk_drewN ?_ _ | refine blk_drew ?_ | refine blk_alloc ?_ _)); exact BK590.out) hb); have n1_ := Aside0.mk (blk_below (g := gb599) (o := .cells #[.string ((rd_T48 l1 x46_3).f0), .int .i64 ((rd_T48 l1 x46_3).f1), .bool ((rd_T48 l1 x46_3).f2), .int .i64 ((rd_T48 l1 x46_3).f3), .bool ((rd_T48 l1 x46_3).f4)] 48 (0, 0)) (by (with_reducible repeat (first | refine blk_drewN ?_ _ | refine blk_drew ?_ | refine blk_alloc ?_ _)); exact BK599.out) hb); have n2_ := Aside0.mk (below_step (by repeat (first | (with_reducible first | exact HB.out | apply below_alloc | apply pw_below_drewN | apply below_drew1 | refine below_set ?_ GE590.out | refine below_set ?_ GE599.out) | exact HB.out)) hb); clear BK590; clear BK599; clear HB; have BK590 := n0_; have BK599 := n1_; have HB := n2_; clear n0_ n1_ n2_; (try clear hb); (try clear hb2); (try clear hk); (try clear hi)))
                          go_ret
                          exact ⟨by first | rfl | (simp [errW_none, errW_some] <;> rfl) | (simp [*, errW_none, errW_some] <;> rfl), by repeat (first | (with_reducible first | exact HB.out | apply below_alloc | apply pw_below_drewN | apply below_drew1 | refine below_set ?_ GE590.out | refine below_set ?_ GE599.out) | exact HB.out)⟩
                      · rw [if_neg c25] at H
                        exact absurd H (by simp)
                    · rw [if_neg c24] at H
                      exact absurd H (by simp)
                  · rw [if_neg c23] at H
                    have c23b0 : decide (x46_3 < (l1.length : Int)) = false := decide_eq_false c23
                    clear c23
                    replace H := Option.bind_eq_some_iff.mp H
                    obtain ⟨t597, A540, H⟩ := H
                    replace H : (some t597) = some r := H
                    have A54 := Aside0.mk A540
                    clear A540
                    obtain rfl := Option.some.inj H
                    go_wp2_with (first | ((with_reducible refine gate_callee (f := 25) rfl ?_); refine goesL_ (some 73) rfl rfl Try.func25 (by kernel_rfl) rfl #[] rfl (by (try simp only [List.map_toArray, List.map_cons, List.map_nil]); first | done | rfl | (simp only [List.length_drop, List.length_take]; rfl)) ?_; (with_reducible refine (sealringlaw29_lives.calls k3  t597 _ A54.out).mono ?_); rintro e w55 ⟨rfl, hb⟩; refine ⟨_, rfl, ?_⟩; have n0_ := Aside0.mk (blk_below (g := gb590) (o := .cells #[.int .i64 a0_0, .int .i64 a0_1, .string a0_2, .slice A0_3 l0_3.length c0_3, .slice A0_4 l0_4.length c0_4] 25 (0, 0)) (by (with_reducible repeat (first | refine blk_drewN ?_ _ | refine blk_drew ?_ | refine blk_alloc ?_ _)); exact BK590.out) hb); have n1_ := Aside0.mk (below_step (by repeat (first | (with_reducible first | exact HB.out | apply below_alloc | apply pw_below_drewN | apply below_drew1 | refine below_set ?_ GE590.out) | exact HB.out)) hb); clear BK590; clear HB; have BK590 := n0_; have HB := n1_; clear n0_ n1_; (try clear hb); (try clear hb2); (try clear hk); (try clear hi)))
                    go_ret
                    exact ⟨by first | rfl | (simp [errW_none, errW_some] <;> rfl) | (simp [*, errW_none, errW_some] <;> rfl), by repeat (first | (with_reducible first | exact HB.out | apply below_alloc | apply pw_below_drewN | apply below_drew1 | refine below_set ?_ GE590.out) | exact HB.out)⟩
end Go.Proofs.Ytbnmcnghmnhigaa.X
end
section
namespace Go.Proofs.Ytbnmcnghmnhigaa.X
open Go.RowKit Go.Proofs.YtbnmcnghmnhigaaW.PrintWords Go.Proofs.YtbnmcnghmnhigaaW.PrintLast
set_option linter.unusedVariables false
set_option linter.unusedSimpArgs false
theorem lives29 : Ev (fun k => sealringlaw29_lives.f k) true := Ev.of sealringlaw29_lives.mono (k := 12) (by kernel_rfl)
theorem rdr (L : List S48) (i : Nat) (h : i < L.length) : rd_T48 L (i : Int) = L[i] := by
  unfold rd_T48
  rw [show ((i : Int)).toNat = i from rfl, List.getD_eq_getElem?_getD, List.getElem?_eq_getElem h]
  rfl
section
variable (a0 a1 : Int) (a2 : ByteArray) (K : List ByteArray) (L : List S25)
def oneP (r : S48) : Int := match get a0 K L r.f0 with
  | none => if r.f2 = true then 15 else 0
  | some x => if r.f1 ≠ 0 ∧ x.f0 ≠ r.f1 then 16 else limP r.f3 r.f4 x.f0 x.f1 x.f2 (x.f4.length : Int)
theorem one_ev (r : S48) (hL : L.length ≤ 1466015503700) (hw : ∀ x ∈ L, (Lit.int .i64 x.f0).wf = true) : Ev (fun k => field_one.f k a0 a1 a2 K L r.f0 r.f1 r.f2 r.f3 r.f4) (oneP a0 K L r) := by
  unfold field_one.f oneP
  refine Ev.bind (Get_ev a0 a1 a2 K L r.f0 hL) ?_
  cases h : get a0 K L r.f0 with
  | none =>
    refine evNeg (by simp [tup]) ?_
    cases r.f2 with
    | true => exact evPos rfl (Ev.now _)
    | false => exact evNeg (by simp) (Ev.now _)
  | some x =>
    refine evPos rfl ?_
    by_cases c : r.f1 ≠ 0 ∧ x.f0 ≠ r.f1
    · simp only [if_pos c]; exact evPos c (Ev.now _)
    · simp only [if_neg c]; exact evNeg c (evPos (hw x (get_mem h)) (Ev.now _))
theorem rOne_ev (r : S48) (hL : L.length ≤ 1466015503700) : Ev (fun k => sealringref29_One.f k a0 a1 a2 K L r.f0 r.f1 r.f2 r.f3 r.f4) (oneP a0 K L r) := by
  unfold sealringref29_One.f oneP
  refine Ev.bind (rGet_ev a0 a1 a2 K L r.f0 hL) ?_
  cases h : get a0 K L r.f0 with
  | none =>
    refine evNeg (by simp [tup]) ?_
    cases r.f2 with
    | true => exact evPos rfl (Ev.now _)
    | false => exact evNeg (by simp) (Ev.now _)
  | some x =>
    refine evPos rfl ?_
    have j2 : ∀ b, Ev (fun k => sealringref29_One.j2 k b r.f0 r.f1 r.f2 r.f3 r.f4 x.f0 x.f1 x.f2 x.f3 x.f4) (if b = true then 18 else if r.f4 = true then (if x.f0 = 3 then (if x.f1 < 0 then 2 else 0) else 0) else 0) := fun b => by
      refine Ev.step (fun k => by rw [sealringref29_One.j2]) ?_
      by_cases c1 : b = true
      · refine evPos c1 ?_; rw [if_pos c1]; exact Ev.now _
      refine evNeg c1 ?_; rw [if_neg c1]
      by_cases c2 : r.f4 = true
      · refine evPos c2 ?_; rw [if_pos c2]
        by_cases c3 : x.f0 = 3
        · refine evPos c3 ?_; rw [if_pos c3]
          by_cases c4 : x.f1 < 0
          · refine evPos c4 ?_; rw [if_pos c4]; exact Ev.now _
          · refine evNeg c4 ?_; rw [if_neg c4]; exact Ev.now _
        · refine evNeg c3 ?_; rw [if_neg c3]; exact Ev.now _
      · refine evNeg c2 ?_; rw [if_neg c2]; exact Ev.now _
    have j1 : ∀ b, Ev (fun k => sealringref29_One.j1 k b r.f0 r.f1 r.f2 r.f3 r.f4 x.f0 x.f1 x.f2 x.f3 x.f4) (if b = true then 4 else if r.f3 > 0 ∧ (x.f0 = 5 ∨ x.f0 = 6) ∧ (x.f4.length : Int) > r.f3 then 18 else if r.f4 = true then (if x.f0 = 3 then (if x.f1 < 0 then 2 else 0) else 0) else 0) := fun b => by
      refine Ev.step (fun k => by rw [sealringref29_One.j1]) ?_
      by_cases c1 : b = true
      · refine evPos c1 ?_; rw [if_pos c1]; exact Ev.now _
      refine evNeg c1 ?_; rw [if_neg c1]
      have no : (¬ (r.f3 > 0 ∧ (x.f0 = 5 ∨ x.f0 = 6))) → Ev (fun k => sealringref29_One.j2 k false r.f0 r.f1 r.f2 r.f3 r.f4 x.f0 x.f1 x.f2 x.f3 x.f4) (if r.f3 > 0 ∧ (x.f0 = 5 ∨ x.f0 = 6) ∧ (x.f4.length : Int) > r.f3 then 18 else if r.f4 = true then (if x.f0 = 3 then (if x.f1 < 0 then 2 else 0) else 0) else 0) := fun hn => by
        rw [if_neg (fun h => hn ⟨h.1, h.2.1⟩)]
        have := j2 false
        rwa [if_neg (by simp)] at this
      have yes : r.f3 > 0 → (x.f0 = 5 ∨ x.f0 = 6) → Ev (fun k => sealringref29_One.j2 k (decide ((x.f4.length : Int) > r.f3)) r.f0 r.f1 r.f2 r.f3 r.f4 x.f0 x.f1 x.f2 x.f3 x.f4) (if r.f3 > 0 ∧ (x.f0 = 5 ∨ x.f0 = 6) ∧ (x.f4.length : Int) > r.f3 then 18 else if r.f4 = true then (if x.f0 = 3 then (if x.f1 < 0 then 2 else 0) else 0) else 0) := fun h1 h2 => by
        have := j2 (decide ((x.f4.length : Int) > r.f3))
        by_cases c : (x.f4.length : Int) > r.f3
        · rw [if_pos ⟨h1, h2, c⟩]; rwa [if_pos (by simpa using c)] at this
        · rw [if_neg (fun h => c h.2.2)]; rwa [if_neg (by simpa using c)] at this
      by_cases c2 : r.f3 > 0
      · refine evPos c2 ?_
        by_cases c5 : x.f0 = 5
        · exact evPos c5 (yes c2 (.inl c5))
        refine evNeg c5 ?_
        by_cases c6 : x.f0 = 6
        · exact evPos c6 (yes c2 (.inr c6))
        exact evNeg c6 (no (by omega))
      · exact evNeg c2 (no (by omega))
    have j0 : ∀ b, Ev (fun k => sealringref29_One.j0 k b r.f0 r.f1 r.f2 r.f3 r.f4 x.f0 x.f1 x.f2 x.f3 x.f4) (if b = true then 16 else limP r.f3 r.f4 x.f0 x.f1 x.f2 (x.f4.length : Int)) := fun b => by
      refine Ev.step (fun k => by rw [sealringref29_One.j0]) ?_
      by_cases c1 : b = true
      · refine evPos c1 ?_; rw [if_pos c1]; exact Ev.now _
      refine evNeg c1 ?_; rw [if_neg c1]
      unfold limP
      by_cases c2 : r.f3 > 0
      · refine evPos c2 ?_
        by_cases c4 : x.f0 = 4
        · refine evPos c4 ?_
          rw [if_pos c4, if_pos c2]
          have := j1 (decide ((x.f2.size : Int) > r.f3))
          by_cases c : (x.f2.size : Int) > r.f3
          · rw [if_pos c]; rwa [if_pos (by simpa using c)] at this
          · rw [if_neg c]
            rw [if_neg (by simpa using c), if_neg (by omega)] at this
            by_cases hf : r.f4 = true
            · rw [if_pos hf, if_neg (by omega)] at this; exact this
            · rw [if_neg hf] at this; exact this
        · refine evNeg c4 ?_
          rw [if_neg c4]
          have := j1 false
          rw [if_neg (by simp)] at this
          by_cases c5 : x.f0 = 5 ∨ x.f0 = 6
          · rw [if_pos c5, if_pos c2]
            by_cases c : (x.f4.length : Int) > r.f3
            · rw [if_pos c]; rwa [if_pos ⟨c2, c5, c⟩] at this
            · rw [if_neg c]
              rw [if_neg (fun h => c h.2.2)] at this
              by_cases hf : r.f4 = true
              · rw [if_pos hf, if_neg (by omega)] at this; exact this
              · rw [if_neg hf] at this; exact this
          · rw [if_neg c5]
            rw [if_neg (fun h => c5 h.2.1)] at this
            by_cases c3 : x.f0 = 3
            · rw [if_pos c3]; rwa [if_pos c3] at this
            · rw [if_neg c3]
              rw [if_neg c3] at this
              by_cases hf : r.f4 = true
              · rw [if_pos hf] at this; exact this
              · rw [if_neg hf] at this; exact this
      · refine evNeg c2 ?_
        have := j1 false
        rw [if_neg (by simp), if_neg (fun h => c2 h.1)] at this
        by_cases c4 : x.f0 = 4
        · rw [if_pos c4, if_neg c2]
          by_cases hf : r.f4 = true
          · rw [if_pos hf, if_neg (by omega)] at this; exact this
          · rw [if_neg hf] at this; exact this
        rw [if_neg c4]
        by_cases c5 : x.f0 = 5 ∨ x.f0 = 6
        · rw [if_pos c5, if_neg c2]
          by_cases hf : r.f4 = true
          · rw [if_pos hf, if_neg (by omega)] at this; exact this
          · rw [if_neg hf] at this; exact this
        rw [if_neg c5]
        by_cases c3 : x.f0 = 3
        · rw [if_pos c3]; rwa [if_pos c3] at this
        · rw [if_neg c3]
          rw [if_neg c3] at this
          by_cases hf : r.f4 = true
          · rw [if_pos hf] at this; exact this
          · rw [if_neg hf] at this; exact this
    by_cases c1 : r.f1 = 0
    · refine evPos c1 ?_
      simp only [if_neg (show ¬ (r.f1 ≠ 0 ∧ x.f0 ≠ r.f1) from fun h => h.1 c1)]
      have := j0 false
      rwa [if_neg (by simp)] at this
    · refine evNeg c1 ?_
      have := j0 (x.f0 != r.f1)
      by_cases c2 : x.f0 = r.f1
      · simp only [if_neg (show ¬ (r.f1 ≠ 0 ∧ x.f0 ≠ r.f1) from fun h => h.2 c2)]
        rwa [if_neg (by simp [c2])] at this
      · simp only [if_pos (show r.f1 ≠ 0 ∧ x.f0 ≠ r.f1 from ⟨c1, c2⟩)]
        rwa [if_pos (by simp [c2])] at this
def checkP : List S48 → ByteArray × Int
  | [] => (⟨#[]⟩, 0)
  | r :: rs => if oneP a0 K L r = 0 then checkP rs else (r.f0, oneP a0 K L r)
theorem Check_go (l : List S48) (hl : l.length ≤ 1000) (hL : L.length ≤ 1466015503700) (hw : ∀ x ∈ L, (Lit.int .i64 x.f0).wf = true) : ∀ (n i : Nat), i + n = l.length → Ev (fun k => field_Check.l0 k l (l.length : Int) (i : Int) a0 a1 a2 K L) (checkP a0 K L (l.drop i)) := by
  intro n
  induction n with
  | zero =>
    intro i hi
    rw [List.drop_eq_nil_of_le (by omega)]
    refine Ev.step (f := fun _ => some (checkP a0 K L [])) (fun k => ?_) (Ev.now _)
    rw [field_Check.l0, if_neg (by omega)]
    rfl
  | succ n ih =>
    intro i hi
    have h : i < l.length := by omega
    rw [List.drop_eq_getElem_cons h, checkP]
    refine Ev.step (fun k => by rw [field_Check.l0]) (evPos (by omega) (evPos (by omega) (evPos (by omega) ?_)))
    rw [rdr l i h]
    refine Ev.bind (f := fun k t479 => if t479 = 0 then (field_Check.l0 k l (l.length : Int) (wrap64 ((i : Int) + 1)) a0 a1 a2 K L) else (some (l[i].f0, t479))) (one_ev a0 a1 a2 K L l[i] hL hw) ?_
    by_cases c : oneP a0 K L l[i] = 0
    · rw [if_pos c]
      refine evPos c ?_
      rw [w64s i (by omega)]
      exact ih (i + 1) (by omega)
    · rw [if_neg c]
      exact evNeg c (Ev.now _)
theorem rCheck_go (l : List S48) (hl : l.length ≤ 1000) (hL : L.length ≤ 1466015503700) : ∀ (n i : Nat), i + n = l.length → Ev (fun k => sealringref29_Check.l0 k l (i : Int) a0 a1 a2 K L) (checkP a0 K L (l.drop i)) := by
  intro n
  induction n with
  | zero =>
    intro i hi
    rw [List.drop_eq_nil_of_le (by omega)]
    refine Ev.step (f := fun _ => some (checkP a0 K L [])) (fun k => ?_) (Ev.now _)
    rw [sealringref29_Check.l0, if_neg (by omega)]
    rfl
  | succ n ih =>
    intro i hi
    have h : i < l.length := by omega
    rw [List.drop_eq_getElem_cons h, checkP]
    refine Ev.step (fun k => by rw [sealringref29_Check.l0]) (evPos (by omega) (evPos (by omega) ?_))
    rw [rdr l i h]
    refine Ev.bind (f := fun k t => if t = 0 then (sealringref29_Check.l0 k l (wrap64 ((i : Int) + 1)) a0 a1 a2 K L) else (some (l[i].f0, t))) (rOne_ev a0 a1 a2 K L l[i] hL) ?_
    by_cases c : oneP a0 K L l[i] = 0
    · rw [if_pos c]
      refine evPos c ?_
      rw [w64s i (by omega)]
      exact ih (i + 1) (by omega)
    · rw [if_neg c]
      exact evNeg c (Ev.now _)
def checkR (l : List S48) : ByteArray × Int := if a0 = 6 then checkP a0 K L l else (⟨#[]⟩, 16)
theorem Check_ev (l : List S48) (hl : l.length ≤ 1000) (hL : L.length ≤ 1466015503700) (hw : ∀ x ∈ L, (Lit.int .i64 x.f0).wf = true) : Ev (fun k => field_Check.f k a0 a1 a2 K L l) (checkR a0 K L l) := by
  unfold field_Check.f checkR
  by_cases c : a0 = 6
  · rw [if_pos c]; exact evPos c (Check_go a0 a1 a2 K L l hl hL hw l.length 0 (by omega))
  · rw [if_neg c]; exact evNeg c (Ev.now _)
theorem rCheck_ev (l : List S48) (hl : l.length ≤ 1000) (hL : L.length ≤ 1466015503700) : Ev (fun k => sealringref29_Check.f k a0 a1 a2 K L l) (checkR a0 K L l) := by
  unfold sealringref29_Check.f checkR
  by_cases c : a0 = 6
  · rw [if_pos c]; exact evPos c (rCheck_go a0 a1 a2 K L l hl hL l.length 0 (by omega))
  · rw [if_neg c]; exact evNeg c (Ev.now _)
def textN (s : ByteArray) : ByteArray × Bool := match get a0 K L s with
  | none => (⟨#[]⟩, false)
  | some x => if x.f0 = 4 then (x.f2, true) else (⟨#[]⟩, false)
theorem Text_ev (s : ByteArray) (hL : L.length ≤ 1466015503700) : Ev (fun k => field_Text.f k a0 a1 a2 K L s) (textN a0 K L s) := by
  unfold field_Text.f textN
  refine Ev.bind (Get_ev a0 a1 a2 K L s hL) ?_
  cases h : get a0 K L s with
  | none => exact evNeg (by simp [tup]) (Ev.now _)
  | some x =>
    refine evPos rfl ?_
    by_cases c : x.f0 = 4
    · simp only [if_pos c]; exact evPos c (Ev.now _)
    · simp only [if_neg c]; exact evNeg c (Ev.now _)
theorem rText_ev (s : ByteArray) (hL : L.length ≤ 1466015503700) : Ev (fun k => sealringref29_Text.f k a0 a1 a2 K L s) (textN a0 K L s) := by
  unfold sealringref29_Text.f textN
  refine Ev.bind (rGet_ev a0 a1 a2 K L s hL) ?_
  cases h : get a0 K L s with
  | none => exact evNeg (by simp [tup]) (Ev.now _)
  | some x =>
    refine evPos rfl ?_
    by_cases c : x.f0 = 4
    · simp only [if_pos c]; exact evPos c (Ev.now _)
    · simp only [if_neg c]; exact evNeg c (Ev.now _)
theorem FC_go (l : List S48) (hl : l.length ≤ 1000) (hL : L.length ≤ 1466015503700) : ∀ (n i : Nat), i + n = l.length → Ev (fun k => sealringlaw29_FieldChecks.l0 k l (l.length : Int) (i : Int) a0 a1 a2 K L) true := by
  intro n
  induction n with
  | zero =>
    intro i hi
    exact Ev.step (fun k => by rw [sealringlaw29_FieldChecks.l0]) (evNeg (by omega) (Ev.bind lives29 (Ev.now _)))
  | succ n ih =>
    intro i hi
    have h : i < l.length := by omega
    refine Ev.step (fun k => by rw [sealringlaw29_FieldChecks.l0]) (evPos (by omega) (evPos (by omega) (evPos (by omega) ?_)))
    rw [rdr l i h]
    refine Ev.bind (Text_ev a0 a1 a2 K L l[i].f0 hL) (Ev.bind (rText_ev a0 a1 a2 K L l[i].f0 hL) (evPos rfl (evNeg (by simp) ?_)))
    rw [w64s i (by omega)]
    exact ih (i + 1) (by omega)
theorem FieldChecks_true (l : List S48) (hb : bk ⟨a0, a1, a2, K, L⟩ ≤ 1466015503700) (hw : ∀ x ∈ L, (Lit.int .i64 x.f0).wf = true) : Ev (fun k => sealringlaw29_FieldChecks.f k a0 a1 a2 K L l) true := by
  have hb2 := bk_eq ⟨a0, a1, a2, K, L⟩
  simp only at hb2
  have hn := bkL_len L
  have hL : L.length ≤ 1466015503700 := by omega
  unfold sealringlaw29_FieldChecks.f
  obtain ⟨b, _, hF⟩ := Few_ev a0 a1 a2 K L 200 hb
  refine Ev.bind (f := fun k t591 => if t591 = true then (sealringlaw29_FieldChecks.j0 k l (decide ((l.length : Int) > 30)) a0 a1 a2 K L) else (sealringlaw29_FieldChecks.j0 k l true a0 a1 a2 K L)) hF ?_
  have hj : ∀ b, b = true → Ev (fun k => sealringlaw29_FieldChecks.j0 k l b a0 a1 a2 K L) true := fun b hb =>
    Ev.step (fun k => by rw [sealringlaw29_FieldChecks.j0]) (evPos hb (Ev.bind lives29 (Ev.now _)))
  cases b with
  | false => exact evNeg (by simp) (hj true rfl)
  | true =>
    refine evPos rfl ?_
    by_cases c : (l.length : Int) > 30
    · exact hj _ (by simpa using c)
    · refine Ev.step (fun k => by rw [sealringlaw29_FieldChecks.j0]) (evNeg (by simpa using c) ?_)
      refine Ev.bind (Check_ev a0 a1 a2 K L l (by omega) hL hw) (Ev.bind (rCheck_ev a0 a1 a2 K L l (by omega) hL) (evPos rfl ?_))
      have hg := FC_go a0 a1 a2 K L l (by omega) hL l.length 0 (by omega)
      refine Ev.step (fun k => by rw [sealringlaw29_FieldChecks.j1]) (evNeg (by simp) ?_)
      exact hg
end
end Go.Proofs.Ytbnmcnghmnhigaa.X
end
section
namespace Go.Proofs.Ytbnmcnghmnhigaa.X
open Go.RowKit Go.Deep Go.WideShapes Go.Proofs.YtbnmcnghmnhigaaW.PrintWords
set_option linter.unusedVariables false
section
variable {H : Type} {enc : TypeId × Value → H} {P : Program} {w : World} {base : Nat} {sp : Nat → Bool} {held : Bool}
def sumB {α : Type} (f : α → Nat) : List α → Nat
  | [] => 0
  | x :: r => f x + sumB f r
theorem sumB_app {α : Type} (f : α → Nat) : ∀ (l r : List α), sumB f (l ++ r) = sumB f l + sumB f r
  | [], r => by simp [sumB]
  | x :: l, r => by simp only [List.cons_append, sumB, sumB_app f l r]; omega
theorem bulk_app {H : Type} : ∀ (l r : List (DataW H)), Rows.uptoBulkAll (l ++ r) = Rows.uptoBulkAll l + Rows.uptoBulkAll r
  | [], r => by simp [Rows.uptoBulkAll]
  | x :: l, r => by simp only [List.cons_append, Rows.uptoBulkAll, bulk_app l r]; omega
theorem open_C {α : Type} (d : Kd α) (Q : α → Prop) (sz : α → Nat) {t e : TypeId} (ht : P.underlying t = some (.slice e)) (hsz : P.cellsOf e = d.sz) {fuel : Nat}
    (hel : ∀ n cs x, n < fuel → DataW.trod enc P w base sp held n e cs = some x → ∃ y, d.K w y cs ∧ Q y ∧ sz y ≤ Rows.uptoBulk x.1) {cs : List Value} {x : DataW H × List MemPlace} (h : DataW.trod enc P w base sp held fuel t cs = some x) :
    ∃ A c l, cs = [.slice A l.length c] ∧ l.length ≤ c ∧ c ≤ maxLen ∧ d.C w A l.length l ∧ (∀ y ∈ l, Q y) ∧ sumB sz l + 1 ≤ Rows.uptoBulk x.1 := by
  rcases DataW.trod_slice ht h with ⟨rfl, rfl⟩ | ⟨a, len, cap, elems, rest, n, hn, rfl, rfl, hb, hl, hm, hlen, hel2, _, _⟩
  · exact ⟨none, 0, [], rfl, Nat.le_refl _, by decide, ⟨rfl, Nat.zero_le _, fun h => absurd h (Nat.lt_irrefl _)⟩, by simp, by simp [sumB, Rows.uptoBulk]⟩
  · have each : ∀ i, i < len → ∃ y : α, ∃ c, c.length = d.sz ∧ d.K w y c ∧ Q y ∧ (∃ h : i < elems.length, sz y ≤ Rows.uptoBulk elems[i].1) ∧ ∀ j u, c[j]? = some u → w.cell? (a.add (i * d.sz + j)) = some u := fun i hi => by
      have h1 := hel2 i hi
      rw [List.getElem?_eq_getElem (by omega)] at h1
      obtain ⟨cs', h2, h3⟩ := Option.bind_eq_some_iff.1 h1
      obtain ⟨y, hy, hq, hz⟩ := hel n _ _ (by omega) h3
      rw [hsz] at h2
      obtain ⟨_, hlen', hcell⟩ := World.cells?_some h2
      refine ⟨y, cs', hlen', hy, hq, ⟨by omega, hz⟩, fun j u hj => ?_⟩
      have hjl : j < d.sz := by
        rw [← hlen']
        exact (List.getElem?_eq_some_iff.1 hj).1
      have := hcell j hjl
      rw [Deep.add_add] at this
      rw [this]
      exact hj
    have hf : ∀ m, m ≤ len → ∃ l : List α, l.length = m ∧ (∀ y ∈ l, Q y) ∧ sumB sz l ≤ Rows.uptoBulkAll ((elems.take m).map (·.1)) ∧ ∀ j p, l[j]? = some p → ∃ c, c.length = d.sz ∧ d.K w p c ∧ ∀ i u, c[i]? = some u → w.cell? (a.add (j * d.sz + i)) = some u := by
      intro m
      induction m with
      | zero => exact fun _ => ⟨[], rfl, by simp, by simp [sumB], fun j p hj => by simp at hj⟩
      | succ m ih =>
        intro hm'
        obtain ⟨l, h1, h2, h2z, h3⟩ := ih (by omega)
        obtain ⟨y, c, g1, g2, g3, ⟨gl, gz⟩, g4⟩ := each m (by omega)
        refine ⟨l ++ [y], by simp [h1], fun z hz => ?_, ?_, fun j p hj => ?_⟩
        · rcases List.mem_append.1 hz with hz | hz
          · exact h2 z hz
          · obtain rfl := List.mem_singleton.1 hz
            exact g3
        · rw [sumB_app, List.take_succ_eq_append_getElem gl, List.map_append, bulk_app]
          simp only [sumB, List.map_cons, List.map_nil, Rows.uptoBulkAll]
          omega
        · by_cases hjm : j < l.length
          · rw [List.getElem?_append_left hjm] at hj
            exact h3 j p hj
          · rw [List.getElem?_append_right (by omega)] at hj
            have hj0 : j - l.length = 0 := by
              have := (List.getElem?_eq_some_iff.1 hj).1
              simp at this
              omega
            rw [hj0] at hj
            obtain rfl : y = p := by simpa using hj
            have : j = m := by omega
            subst this
            exact ⟨c, g1, g2, g4⟩
    obtain ⟨l, h1, h2, h2z, h3⟩ := hf len (Nat.le_refl _)
    rw [List.take_of_length_le (by omega)] at h2z
    refine ⟨some a, cap, l, by rw [h1], by omega, hm, ⟨rfl, ?_, fun _ => ⟨a, rfl, h3⟩⟩, h2, by simp only [Rows.uptoBulk]; omega⟩
    have : maxLen = 9223372036854775807 := by decide
    omega
end
theorem list5 {α : Type} {l : List α} (h : l.length = 5) : ∃ a b c d e, l = [a, b, c, d, e] := by
  match l, h with
  | [a, b, c, d, e], _ => exact ⟨a, b, c, d, e, rfl⟩
inductive OkN : S25 → Prop
  | mk {a b : Int} {s : ByteArray} {K : List ByteArray} {L : List S25} (ha : (Lit.int .i64 a).wf = true) (hb : (Lit.int .i64 b).wf = true) (hs : s.size ≤ maxLen) (hK : K.length ≤ maxLen) (hk : ∀ k ∈ K, k.size ≤ maxLen)
    (hL : L.length ≤ maxLen) (hl : ∀ x ∈ L, OkN x) : OkN ⟨a, b, s, K, L⟩
section
variable {H : Type} {enc : TypeId × Value → H} {w : World} {base : Nat} {sp : Nat → Bool} {held : Bool}
theorem sumB_K : ∀ l : List ByteArray, sumB (fun s : ByteArray => s.size + 1) l = bkK l
  | [] => rfl
  | s :: r => by simp only [sumB, bkK, sumB_K r]
theorem sumB_L : ∀ l : List S25, sumB bk l = bkL l
  | [] => rfl
  | s :: r => by simp only [sumB, bkL, sumB_L r]
theorem open_strC {fuel : Nat} {cs : List Value} {x : DataW H × List MemPlace} (h : DataW.trod enc Try.prog w base sp held fuel 22 cs = some x) :
    ∃ A c l, cs = [.slice A l.length c] ∧ l.length ≤ c ∧ c ≤ maxLen ∧ Kd.string.C w A l.length l ∧ (∀ y ∈ l, y.size ≤ maxLen) ∧ bkK l + 1 ≤ Rows.uptoBulk x.1 := by
  have := open_C Kd.string (fun y => y.size ≤ maxLen) (fun s : ByteArray => s.size + 1) Try.underlying22 (by kernel_rfl) (fun n cs x _ hx => by
    obtain ⟨s, rfl, rfl, hs⟩ := DataW.trod_string Try.underlying9 hx
    exact ⟨s, rfl, hs, by simp only [Rows.uptoBulk, Array.length_toList]; exact Nat.le_refl _⟩) h
  simpa only [sumB_K] using this
theorem open_nodeK : ∀ (fuel : Nat) (cs : List Value) (x : DataW H × List MemPlace), DataW.trod enc Try.prog w base sp held fuel 25 cs = some x → ∃ y, k25.K w y cs ∧ OkN y ∧ bk y ≤ Rows.uptoBulk x.1 := by
  intro fuel
  induction fuel using Nat.strongRecOn with
  | _ fuel ih =>
    intro cs x h
    obtain ⟨xs, n, rfl, rfl, hcs, hxl, hf⟩ := DataW.trod_struct Try.underlying25 h
    have hc5 : cs.length = 5 := hcs.trans (by kernel_rfl)
    have hx5 : xs.length = 5 := hxl
    have f0 := hf 0 _ rfl
    have f1 := hf 1 _ rfl
    have f2 := hf 2 _ rfl
    have f3 := hf 3 _ rfl
    have f4 := hf 4 _ rfl
    clear h hf hcs hxl
    obtain ⟨v0, v1, v2, v3, v4, rfl⟩ := list5 hc5
    obtain ⟨x0, x1, x2, x3, x4, rfl⟩ := list5 hx5
    · have f0 : DataW.trod enc Try.prog w base sp held n 3 (List.take (Try.prog.cellsOf 3) [v0, v1, v2, v3, v4]) = some x0 := f0
      have f1 : DataW.trod enc Try.prog w base sp held n 2 (List.take (Try.prog.cellsOf 2) [v1, v2, v3, v4]) = some x1 := f1
      have f2 : DataW.trod enc Try.prog w base sp held n 9 (List.take (Try.prog.cellsOf 9) [v2, v3, v4]) = some x2 := f2
      have f3 : DataW.trod enc Try.prog w base sp held n 22 (List.take (Try.prog.cellsOf 22) [v3, v4]) = some x3 := f3
      have f4 : DataW.trod enc Try.prog w base sp held n 23 (List.take (Try.prog.cellsOf 23) [v4]) = some x4 := f4
      rw [show Try.prog.cellsOf 3 = 1 by kernel_rfl] at f0
      rw [show Try.prog.cellsOf 2 = 1 by kernel_rfl] at f1
      rw [show Try.prog.cellsOf 9 = 1 by kernel_rfl] at f2
      rw [show Try.prog.cellsOf 22 = 1 by kernel_rfl] at f3
      rw [show Try.prog.cellsOf 23 = 1 by kernel_rfl] at f4
      have g0 : DataW.trod enc Try.prog w base sp held n 3 [v0] = some x0 := f0
      have g1 : DataW.trod enc Try.prog w base sp held n 2 [v1] = some x1 := f1
      have g2 : DataW.trod enc Try.prog w base sp held n 9 [v2] = some x2 := f2
      have g3 : DataW.trod enc Try.prog w base sp held n 22 [v3] = some x3 := f3
      have g4 : DataW.trod enc Try.prog w base sp held n 23 [v4] = some x4 := f4
      obtain ⟨a0, e0, z0, w0⟩ := DataW.trod_int Try.underlying3 g0
      obtain ⟨a1, e1, z1, w1⟩ := DataW.trod_int Try.underlying2 g1
      obtain ⟨a2, e2, z2, w2⟩ := DataW.trod_string Try.underlying9 g2
      obtain ⟨A3, c3, l3, e3, h31, h32, h33, h34, h35⟩ := open_strC g3
      obtain ⟨A4, c4, l4, e4, h41, h42, h43, h44, h45⟩ := open_C k25 OkN bk Try.underlying23 (by kernel_rfl) (fun m cs x hm hx => ih m (by omega) cs x hx) g4
      injection e0 with e0 _
      injection e1 with e1 _
      injection e2 with e2 _
      injection e3 with e3 _
      injection e4 with e4 _
      subst e0 e1 e2 e3 e4
      refine ⟨⟨a0, a1, a2, l3, l4⟩, k25_mk w ⟨a0, a1, a2, l3, l4⟩ h31 h33 h41 h43, .mk w0 w1 w2 (by omega) h34 (by omega) h44, ?_⟩
      rw [sumB_L] at h45
      rw [bk_eq]
      subst z0 z1 z2
      simp only [List.map_cons, List.map_nil, Rows.uptoBulk, Rows.uptoBulkAll, Array.length_toList]
      have e : a2.data.size = a2.size := rfl
      omega
theorem open_node {v : Value} {d : DataW H} {ps : List MemPlace} (hv : ∃ cs, v = .agg cs) (h : DataW.Trod enc Try.prog w base sp held 25 v d ps) :
    ∃ a0 a1 a2 A3 c3 l3 A4 c4 l4, v = .agg #[.int .i64 a0, .int .i64 a1, .string a2, .slice A3 (List.length l3) c3, .slice A4 (List.length l4) c4] ∧ Kd.string.C w A3 l3.length l3 ∧ l3.length ≤ c3 ∧ k25.C w A4 l4.length l4 ∧ l4.length ≤ c4 ∧ OkN ⟨a0, a1, a2, l3, l4⟩ ∧ bk ⟨a0, a1, a2, l3, l4⟩ ≤ Rows.uptoBulk d := by
  obtain ⟨fuel, hf⟩ := h
  obtain ⟨⟨a0, a1, a2, l3, l4⟩, hK, hO, hB⟩ := open_nodeK fuel _ _ hf
  obtain ⟨A3, c3, A4, c4, e, h1, h2, h3, h4⟩ := k25_open hK
  obtain ⟨cs, rfl⟩ := hv
  refine ⟨a0, a1, a2, A3, c3, l3, A4, c4, l4, ?_, h2, h1, h4, h3, hO, hB⟩
  have : cs.toList = [.int .i64 a0, .int .i64 a1, .string a2, .slice A3 l3.length c3, .slice A4 l4.length c4] := e
  congr 1
  cases cs
  simpa using this
end
end Go.Proofs.Ytbnmcnghmnhigaa.X
end
section
namespace Go.Proofs.Ytbnmcnghmnhigaa.X
open Go.RowKit Go.Deep Go.WideShapes Go.Proofs.YtbnmcnghmnhigaaW.PrintWords
set_option linter.unusedVariables false
section
variable {H : Type} {enc : TypeId × Value → H} {w : World} {base : Nat} {sp : Nat → Bool} {held : Bool}
theorem open_ruleK (fuel : Nat) (cs : List Value) (x : DataW H × List MemPlace) (h : DataW.trod enc Try.prog w base sp held fuel 48 cs = some x) : ∃ y, k48.K w y cs ∧ True ∧ 0 ≤ Rows.uptoBulk x.1 := by
  obtain ⟨xs, n, rfl, rfl, hcs, hxl, hf⟩ := DataW.trod_struct Try.underlying48 h
  have hc5 : cs.length = 5 := hcs.trans (by kernel_rfl)
  have hx5 : xs.length = 5 := hxl
  have f0 := hf 0 _ rfl
  have f1 := hf 1 _ rfl
  have f2 := hf 2 _ rfl
  have f3 := hf 3 _ rfl
  have f4 := hf 4 _ rfl
  clear h hf hcs hxl
  obtain ⟨v0, v1, v2, v3, v4, rfl⟩ := list5 hc5
  obtain ⟨x0, x1, x2, x3, x4, rfl⟩ := list5 hx5
  have f0 : DataW.trod enc Try.prog w base sp held n 9 (List.take (Try.prog.cellsOf 9) [v0, v1, v2, v3, v4]) = some x0 := f0
  have f1 : DataW.trod enc Try.prog w base sp held n 3 (List.take (Try.prog.cellsOf 3) [v1, v2, v3, v4]) = some x1 := f1
  have f2 : DataW.trod enc Try.prog w base sp held n 4 (List.take (Try.prog.cellsOf 4) [v2, v3, v4]) = some x2 := f2
  have f3 : DataW.trod enc Try.prog w base sp held n 3 (List.take (Try.prog.cellsOf 3) [v3, v4]) = some x3 := f3
  have f4 : DataW.trod enc Try.prog w base sp held n 4 (List.take (Try.prog.cellsOf 4) [v4]) = some x4 := f4
  rw [show Try.prog.cellsOf 9 = 1 by kernel_rfl] at f0
  rw [show Try.prog.cellsOf 3 = 1 by kernel_rfl] at f1
  rw [show Try.prog.cellsOf 4 = 1 by kernel_rfl] at f2
  rw [show Try.prog.cellsOf 3 = 1 by kernel_rfl] at f3
  rw [show Try.prog.cellsOf 4 = 1 by kernel_rfl] at f4
  have g0 : DataW.trod enc Try.prog w base sp held n 9 [v0] = some x0 := f0
  have g1 : DataW.trod enc Try.prog w base sp held n 3 [v1] = some x1 := f1
  have g2 : DataW.trod enc Try.prog w base sp held n 4 [v2] = some x2 := f2
  have g3 : DataW.trod enc Try.prog w base sp held n 3 [v3] = some x3 := f3
  have g4 : DataW.trod enc Try.prog w base sp held n 4 [v4] = some x4 := f4
  obtain ⟨a0, e0, z0, w0⟩ := DataW.trod_string Try.underlying9 g0
  obtain ⟨a1, e1, z1, w1⟩ := DataW.trod_int Try.underlying3 g1
  obtain ⟨a2, e2, z2⟩ := DataW.trod_bool Try.underlying4 g2
  obtain ⟨a3, e3, z3, w3⟩ := DataW.trod_int Try.underlying3 g3
  obtain ⟨a4, e4, z4⟩ := DataW.trod_bool Try.underlying4 g4
  injection e0 with e0 _
  injection e1 with e1 _
  injection e2 with e2 _
  injection e3 with e3 _
  injection e4 with e4 _
  subst e0 e1 e2 e3 e4
  exact ⟨⟨a0, a1, a2, a3, a4⟩, k48_mk w ⟨a0, a1, a2, a3, a4⟩, trivial, Nat.zero_le _⟩
set_option maxRecDepth 100000 in
theorem open_rules' {b0 : Nat} {r : Reach} {v : Value} {d : DataW H} {ps : List MemPlace} (hv : Value.okWide Try.prog w r b0 43 v) (h : DataW.Trod enc Try.prog w base sp held 43 v d ps) :
    ∃ l A c, v = .slice A (List.length l) c ∧ k48.C w A l.length l ∧ l.length ≤ c := by
  obtain ⟨a, n, c, rfl⟩ := okWide_slice Try.underlying43 hv
  obtain ⟨fuel, hf⟩ := h
  obtain ⟨A, c', l, e, h1, h2, h3, h4, h5⟩ := open_C k48 (fun _ => True) (fun _ => 0) Try.underlying43 (by kernel_rfl) (fun m cs x _ hx => open_ruleK m cs x hx) hf
  have e2 : [Value.slice a n c] = [.slice A l.length c'] := e
  injection e2 with e2 _
  injection e2 with e3 e4 e5
  subst e3 e4 e5
  exact ⟨l, a, c, rfl, h3, h1⟩
end
end Go.Proofs.Ytbnmcnghmnhigaa.X
end
section
namespace Go.Proofs.Ytbnmcnghmnhigaa.X
open Go.RowKit Go.Proofs.YtbnmcnghmnhigaaW.PrintWords Go.Proofs.YtbnmcnghmnhigaaW.PrintLast
set_option linter.unusedVariables false
theorem FieldChecks_walk (a0 a1 : Int) (a2 : ByteArray) (A3 : Option Addr) (c3 : Nat) (K : List ByteArray) (A4 : Option Addr) (c4 : Nat) (L : List S25) (A1 : Option Addr) (c1 : Nat) (l1 : List S48) (W : World) (g3 : Kd.string.C W A3 K.length K) (b3 : K.length ≤ c3) (g4 : k25.C W A4 L.length L) (b4 : L.length ≤ c4) (ok : OkN ⟨a0, a1, a2, K, L⟩)
    (g1 : k48.C W A1 l1.length l1) (b1 : l1.length ≤ c1) (hb : bk ⟨a0, a1, a2, K, L⟩ ≤ 1466015503700) :
    Calls Try.prog 6 #[.agg #[.int .i64 a0, .int .i64 a1, .string a2, .slice A3 K.length c3, .slice A4 L.length c4], .slice A1 l1.length c1] W fun e W' => e = .returned (.bool true) ∧ Below W.heap.size W W' := by
  have hw : ∀ x ∈ L, (Lit.int .i64 x.f0).wf = true := by
    cases ok with
    | mk ha _ _ _ _ _ hl => intro x hx; cases hl x hx with | mk h _ _ _ _ _ _ => exact h
  obtain ⟨k, hk⟩ := (FieldChecks_true a0 a1 a2 K L l1 hb hw).rounds
  exact sealringlaw29_FieldChecks.calls k a0 a1 a2 A3 c3 K A4 c4 L A1 c1 l1 true W g3 b3 g4 b4 g1 b1 hk
end Go.Proofs.Ytbnmcnghmnhigaa.X
end
section
namespace Go.Proofs.Ytbnmcnghmnhigaa.fieldChecks
open Go.ChangeShapes Go.WideShapes Go.ChangeAt Go.RowKit
open Go.ChangeMaps (open_string shut_string)
set_option linter.unusedVariables false
set_option linter.unusedSimpArgs false
theorem own : ownKnob Try.prog.godebug = none := by kernel_rfl
theorem laidOut : laidOutB Try.prog = true := by kernel_rfl
set_option maxRecDepth 100000 in
theorem lifted (os : Os) (started : os.Started) (H : Type) (enc : TypeId × Value → H) (F : Stop.Interp) :
    ReturnsInHanded {} Try.checked os 6 .any ((Rows.OpenSpec.upto Rows.fieldChecksSpec).pre6 enc Try.prog Try.f6 Rows.fieldChecksUptoRow.domain false) (((Rows.OpenSpec.upto Rows.fieldChecksSpec).at F).post enc Try.prog Try.f6 false true false false) := by
  refine returnsInHanded_of_cond (C := Try.checked) (s := (Rows.OpenSpec.upto Rows.fieldChecksSpec)) (k := Rows.uptoSmall) rfl own started (by kernel_rfl) Try.func6
    (OpenSpec.witness (enc := enc) (C := Try.checked) (s := (Rows.OpenSpec.upto Rows.fieldChecksSpec)) (k := Rows.uptoSmall) rfl false ⟨#[], #[.agg #[.int .i64 0, .int .i64 0, .string ByteArray.empty, .slice none 0 0, .slice none 0 0], .slice none 0 0], []⟩ 8 (by kernel_rfl) (by kernel_rfl) (by kernel_rfl)
      (x := ([.agg [.lit (.int .i64 0), .lit (.int .i64 0), .lit (.string []), .nil, .nil], .nil], [], [])) (by kernel_rfl) rfl (by kernel_rfl)) ?_
  intro W base args ds gs before hval0 hW _ hk _
  have hval : ∀ (j : Nat) t v, Try.f6.params[j]? = some t → args[j]? = some v → Value.okWide Try.prog W .any base t v := hval0
  have hW' := hW
  obtain ⟨p, q, hA0, hV, rfl, hfz, hnd⟩ := hW
  have hA : DataW.TrodAll enc Try.prog W 0 (fun _ => true) true Try.f6.params.toList args.toList ds p := hA0
  rw [Try.params6] at hA hval
  obtain ⟨v0, vs0, d0, ds0, p0, q0, hargs, rfl, rfl, h0, r0⟩ := trodAll_cons hA
  obtain ⟨v1, vs1, d1, ds1, p1, q1, rfl, rfl, rfl, h1, r1⟩ := trodAll_cons r0
  obtain ⟨rfl, rfl, rfl⟩ := trodAll_nil r1
  obtain rfl : args = #[v0, v1] := by cases args; simp_all
  obtain ⟨rfl, rfl⟩ := trodVars_none hV
  have hb : Rows.uptoBulkAll [d0, d1] ≤ 1048576 := of_decide_eq_true hk
  simp only [Rows.uptoBulkAll] at hb
  have k0 := h0
  have lt0 : ∀ x ∈ p0, x.block < W.heap.size := by obtain ⟨m, hm⟩ := k0; exact DataW.trod_lt m _ _ _ hm
  obtain ⟨cs0, ec0, _⟩ := okWide_struct Try.underlying25 (hval 0 25 v0 rfl rfl)
  obtain ⟨a0_0, a0_1, a0_2, A0_3, c0_3, l0_3, A0_4, c0_4, l0_4, rfl, g0_3, b0_3, g0_4, b0_4, ok0, bk0⟩ := X.open_node ⟨cs0, ec0⟩ h0
  have k1 := h1
  have lt1 : ∀ x ∈ p1, x.block < W.heap.size := by obtain ⟨m, hm⟩ := k1; exact DataW.trod_lt m _ _ _ hm
  obtain ⟨l1, A1, c1, rfl, g1, b1⟩ := X.open_rules' (hval 1 43 v1 rfl rfl) h1
  clear hA0 hval0
  refine (X.FieldChecks_walk a0_0 a0_1 a0_2 A0_3 c0_3 l0_3 A0_4 c0_4 l0_4 A1 c1 l1 W g0_3 b0_3 g0_4 b0_4 ok0 g1 b1 (by omega)).mono fun e W' ⟨he, bel⟩ => ?_
  subst he
  exact ⟨_, rfl, _, _, _, [], _, [], hW', trodAll_mk1 (shut_bool Try.underlying4 _), (trodAll_cons_mk (Below.trod laidOut (by kernel_rfl) (of_decide_eq_true (by kernel_rfl)) k0 bel lt0) (trodAll_cons_mk (Below.trod laidOut (by kernel_rfl) (of_decide_eq_true (by kernel_rfl)) k1 bel lt1) trodAll_mk0)), rfl, bel.frame _, fun h => by cases h⟩
theorem over : Rows.fieldChecksUptoRow.holds Try.pinned (Rows.OpenSpec.upto Rows.fieldChecksSpec) :=
  OpenClaim.holds_of_cond 6 Try.f6 rfl rfl rfl rfl rfl rfl rfl ⟨rfl, rfl, rfl, rfl, rfl⟩ rfl rfl rfl rfl rfl (by kernel_rfl) Try.func6 (by kernel_rfl)
    (of_decide_eq_true (by kernel_rfl)) (by unfold Func.isWrapper; first | (rw [if_pos (by decide +kernel)]; kernel_rfl) | (rw [if_neg (by decide +kernel)]; exact ⟨rfl, rfl⟩))
    (fun os started H enc _ F => lifted os started H enc F)
end Go.Proofs.Ytbnmcnghmnhigaa.fieldChecks
namespace Go.Proofs.Ytbnmcnghmnhigaa
/-- The row, under a short name, for the claim. -/
theorem fieldChecksUpto_holds : Rows.FieldChecksUptoSaid := fieldChecks.over
#print axioms fieldChecksUpto_holds
end Go.Proofs.Ytbnmcnghmnhigaa
end
