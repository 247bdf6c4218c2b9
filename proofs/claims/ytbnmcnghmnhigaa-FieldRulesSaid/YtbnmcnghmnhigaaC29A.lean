/- FieldRules answers true at every kind, limit and names. -/
import Derived.Test.YtbnmcnghmnhigaaC29A5
import Derived.Test.YtbnmcnghmnhigaaRows
import Derived.OpenShut
import Derived.Deep.Fields
import Derived.ChangeArms
import Derived.ChangeOld
import Derived.Below
import Derived.SizedLaws
import Derived.ChangeSlices
import Derived.WalkKit
import Derived.ProofKit
import Derived.ShutString
section
namespace Go.Proofs.Ytbnmcnghmnhigaa.X
open Go.RowKit Go.Proofs.YtbnmcnghmnhigaaW.PrintWords Go.Proofs.YtbnmcnghmnhigaaW.PrintLast Go.Proofs.YtbnmcnghmnhigaaW.PrintMore
attribute [local go_sem] max2_int min2_int max_two min_two max_three min_three max_four min_four
set_option linter.unusedVariables false
set_option linter.unusedSimpArgs false
mutual
def sealringlaw29_FieldChecks.j0 : Nat → List (S48) → Bool → Int → Int → ByteArray → List ByteArray → List (S25) → Option (Bool)
  | 0, _, _, _, _, _, _, _ => none
  | k + 1, x1, x22, x591000, x591001, x591002, x591003, x591004 => if x22 = true then ((sealringlaw29_lives.f k).bind fun t592 => (some t592)) else ((field_Check.f k x591000 x591001 x591002 x591003 x591004 x1).bind fun bt593 => ((sealringref29_Check.f k x591000 x591001 x591002 x591003 x591004 x1).bind fun bt595 => (if bt593.1.toList = bt595.1.toList then (sealringlaw29_FieldChecks.j1 k x1 (bt593.2 != bt595.2) x591000 x591001 x591002 x591003 x591004) else (sealringlaw29_FieldChecks.j1 k x1 true x591000 x591001 x591002 x591003 x591004))))
def sealringlaw29_FieldChecks.j1 : Nat → List (S48) → Bool → Int → Int → ByteArray → List ByteArray → List (S25) → Option (Bool)
  | 0, _, _, _, _, _, _, _ => none
  | k + 1, x1, x43, x591000, x591001, x591002, x591003, x591004 => if x43 = true then (some false) else (sealringlaw29_FieldChecks.l0 k x1 (x1.length : Int) 0 x591000 x591001 x591002 x591003 x591004)
def sealringlaw29_FieldChecks.l0 : Nat → List (S48) → Int → Int → Int → Int → ByteArray → List ByteArray → List (S25) → Option (Bool)
  | 0, _, _, _, _, _, _, _, _ => none
  | k + 1, x44, x45, x46, x591000, x591001, x591002, x591003, x591004 => if x46 < x45 then (if 0 ≤ x46 then (if x46 < (x44.length : Int) then ((field_Text.f k x591000 x591001 x591002 x591003 x591004 ((rd_T48 x44 x46).f0)).bind fun bt600 => ((sealringref29_Text.f k x591000 x591001 x591002 x591003 x591004 ((rd_T48 x44 x46).f0)).bind fun bt602 => (if bt600.1.toList = bt602.1.toList then (if (bt600.2 != bt602.2) = true then (some false) else (sealringlaw29_FieldChecks.l0 k x44 x45 (wrap64 (x46 + 1)) x591000 x591001 x591002 x591003 x591004)) else (some false)))) else (none)) else (none)) else ((sealringlaw29_lives.f k).bind fun t597 => (some t597))
end
def sealringlaw29_FieldChecks.f (k : Nat) (a0_0 : Int) (a0_1 : Int) (a0_2 : ByteArray) (l0_3 : List ByteArray) (l0_4 : List (S25)) (l1 : List (S48)) : Option (Bool) := (sealringlaw07_Few.f k a0_0 a0_1 a0_2 l0_3 l0_4 200).bind fun t591 => (if t591 = true then (sealringlaw29_FieldChecks.j0 k l1 (decide ((l1.length : Int) > 30)) a0_0 a0_1 a0_2 l0_3 l0_4) else (sealringlaw29_FieldChecks.j0 k l1 true a0_0 a0_1 a0_2 l0_3 l0_4))
theorem sealringlaw29_FieldChecks.mono_l : ∀ k, (∀ y0 y1 y2 y3 y4 y5 y6, LeO (sealringlaw29_FieldChecks.j0 k y0 y1 y2 y3 y4 y5 y6) (sealringlaw29_FieldChecks.j0 (k + 1) y0 y1 y2 y3 y4 y5 y6)) ∧ (∀ y0 y1 y2 y3 y4 y5 y6, LeO (sealringlaw29_FieldChecks.j1 k y0 y1 y2 y3 y4 y5 y6) (sealringlaw29_FieldChecks.j1 (k + 1) y0 y1 y2 y3 y4 y5 y6)) ∧ (∀ y0 y1 y2 y3 y4 y5 y6 y7, LeO (sealringlaw29_FieldChecks.l0 k y0 y1 y2 y3 y4 y5 y6 y7) (sealringlaw29_FieldChecks.l0 (k + 1) y0 y1 y2 y3 y4 y5 y6 y7))
  | 0 => ⟨fun _ _ _ _ _ _ _ r h => by simp [sealringlaw29_FieldChecks.j0] at h, fun _ _ _ _ _ _ _ r h => by simp [sealringlaw29_FieldChecks.j1] at h, fun _ _ _ _ _ _ _ _ r h => by simp [sealringlaw29_FieldChecks.l0] at h⟩
  | k + 1 => by
    obtain ⟨ih0, ih1, ih2⟩ := sealringlaw29_FieldChecks.mono_l k
    refine ⟨?_, ?_, ?_⟩
    · intro y0 y1 y2 y3 y4 y5 y6
      unfold sealringlaw29_FieldChecks.j0
      repeat' first
      | (with_reducible exact ih0 _ _ _ _ _ _ _)
      | (with_reducible exact ih1 _ _ _ _ _ _ _)
      | (with_reducible exact ih2 _ _ _ _ _ _ _ _)
      | (with_reducible exact field_Check.mono _ _ _ _ _ _ _)
      | (with_reducible exact field_Text.mono _ _ _ _ _ _ _)
      | (with_reducible exact sealringlaw07_Few.mono _ _ _ _ _ _ _)
      | (with_reducible exact sealringlaw29_lives.mono _)
      | (with_reducible exact sealringref29_Check.mono _ _ _ _ _ _ _)
      | (with_reducible exact sealringref29_Text.mono _ _ _ _ _ _ _)
      | (with_reducible exact LeO.refl _)
      | (with_reducible exact LeO.none _)
      | (with_reducible refine LeO.ite ?_ ?_)
      | (with_reducible refine LeO.bind ?_ (fun _ => ?_))
      | exact ih0 _ _ _ _ _ _ _
      | exact ih1 _ _ _ _ _ _ _
      | exact ih2 _ _ _ _ _ _ _ _
      | exact field_Check.mono _ _ _ _ _ _ _
      | exact field_Text.mono _ _ _ _ _ _ _
      | exact sealringlaw07_Few.mono _ _ _ _ _ _ _
      | exact sealringlaw29_lives.mono _
      | exact sealringref29_Check.mono _ _ _ _ _ _ _
      | exact sealringref29_Text.mono _ _ _ _ _ _ _
      | exact LeO.none _
      | refine LeO.ite ?_ ?_
      | refine LeO.bind ?_ (fun _ => ?_)
    · intro y0 y1 y2 y3 y4 y5 y6
      unfold sealringlaw29_FieldChecks.j1
      repeat' first
      | (with_reducible exact ih0 _ _ _ _ _ _ _)
      | (with_reducible exact ih1 _ _ _ _ _ _ _)
      | (with_reducible exact ih2 _ _ _ _ _ _ _ _)
      | (with_reducible exact field_Check.mono _ _ _ _ _ _ _)
      | (with_reducible exact field_Text.mono _ _ _ _ _ _ _)
      | (with_reducible exact sealringlaw07_Few.mono _ _ _ _ _ _ _)
      | (with_reducible exact sealringlaw29_lives.mono _)
      | (with_reducible exact sealringref29_Check.mono _ _ _ _ _ _ _)
      | (with_reducible exact sealringref29_Text.mono _ _ _ _ _ _ _)
      | (with_reducible exact LeO.refl _)
      | (with_reducible exact LeO.none _)
      | (with_reducible refine LeO.ite ?_ ?_)
      | (with_reducible refine LeO.bind ?_ (fun _ => ?_))
      | exact ih0 _ _ _ _ _ _ _
      | exact ih1 _ _ _ _ _ _ _
      | exact ih2 _ _ _ _ _ _ _ _
      | exact field_Check.mono _ _ _ _ _ _ _
      | exact field_Text.mono _ _ _ _ _ _ _
      | exact sealringlaw07_Few.mono _ _ _ _ _ _ _
      | exact sealringlaw29_lives.mono _
      | exact sealringref29_Check.mono _ _ _ _ _ _ _
      | exact sealringref29_Text.mono _ _ _ _ _ _ _
      | exact LeO.none _
      | refine LeO.ite ?_ ?_
      | refine LeO.bind ?_ (fun _ => ?_)
    · intro y0 y1 y2 y3 y4 y5 y6 y7
      unfold sealringlaw29_FieldChecks.l0
      repeat' first
      | (with_reducible exact ih0 _ _ _ _ _ _ _)
      | (with_reducible exact ih1 _ _ _ _ _ _ _)
      | (with_reducible exact ih2 _ _ _ _ _ _ _ _)
      | (with_reducible exact field_Check.mono _ _ _ _ _ _ _)
      | (with_reducible exact field_Text.mono _ _ _ _ _ _ _)
      | (with_reducible exact sealringlaw07_Few.mono _ _ _ _ _ _ _)
      | (with_reducible exact sealringlaw29_lives.mono _)
      | (with_reducible exact sealringref29_Check.mono _ _ _ _ _ _ _)
      | (with_reducible exact sealringref29_Text.mono _ _ _ _ _ _ _)
      | (with_reducible exact LeO.refl _)
      | (with_reducible exact LeO.none _)
      | (with_reducible refine LeO.ite ?_ ?_)
      | (with_reducible refine LeO.bind ?_ (fun _ => ?_))
      | exact ih0 _ _ _ _ _ _ _
      | exact ih1 _ _ _ _ _ _ _
      | exact ih2 _ _ _ _ _ _ _ _
      | exact field_Check.mono _ _ _ _ _ _ _
      | exact field_Text.mono _ _ _ _ _ _ _
      | exact sealringlaw07_Few.mono _ _ _ _ _ _ _
      | exact sealringlaw29_lives.mono _
      | exact sealringref29_Check.mono _ _ _ _ _ _ _
      | exact sealringref29_Text.mono _ _ _ _ _ _ _
      | exact LeO.none _
      | refine LeO.ite ?_ ?_
      | refine LeO.bind ?_ (fun _ => ?_)
theorem sealringlaw29_FieldChecks.mono : ∀ a0 a1 a2 a3 a4 a5 k, LeO (sealringlaw29_FieldChecks.f k a0 a1 a2 a3 a4 a5) (sealringlaw29_FieldChecks.f (k + 1) a0 a1 a2 a3 a4 a5) := by
  intro a0 a1 a2 a3 a4 a5 k
  obtain ⟨ih0, ih1, ih2⟩ := sealringlaw29_FieldChecks.mono_l k
  unfold sealringlaw29_FieldChecks.f
  repeat' first
      | (with_reducible exact ih0 _ _ _ _ _ _ _)
      | (with_reducible exact ih1 _ _ _ _ _ _ _)
      | (with_reducible exact ih2 _ _ _ _ _ _ _ _)
      | (with_reducible exact field_Check.mono _ _ _ _ _ _ _)
      | (with_reducible exact field_Text.mono _ _ _ _ _ _ _)
      | (with_reducible exact sealringlaw07_Few.mono _ _ _ _ _ _ _)
      | (with_reducible exact sealringlaw29_lives.mono _)
      | (with_reducible exact sealringref29_Check.mono _ _ _ _ _ _ _)
      | (with_reducible exact sealringref29_Text.mono _ _ _ _ _ _ _)
      | (with_reducible exact LeO.refl _)
      | (with_reducible exact LeO.none _)
      | (with_reducible refine LeO.ite ?_ ?_)
      | (with_reducible refine LeO.bind ?_ (fun _ => ?_))
      | exact ih0 _ _ _ _ _ _ _
      | exact ih1 _ _ _ _ _ _ _
      | exact ih2 _ _ _ _ _ _ _ _
      | exact field_Check.mono _ _ _ _ _ _ _
      | exact field_Text.mono _ _ _ _ _ _ _
      | exact sealringlaw07_Few.mono _ _ _ _ _ _ _
      | exact sealringlaw29_lives.mono _
      | exact sealringref29_Check.mono _ _ _ _ _ _ _
      | exact sealringref29_Text.mono _ _ _ _ _ _ _
      | exact LeO.none _
      | refine LeO.ite ?_ ?_
      | refine LeO.bind ?_ (fun _ => ?_)
set_option maxHeartbeats 8000000 in
set_option maxRecDepth 100000 in
theorem sealringlaw29_FieldChecks.calls (k : Nat) (a0_0 : Int) (a0_1 : Int) (a0_2 : ByteArray) (A0_3 : Option Addr) (c0_3 : Nat) (l0_3 : List ByteArray) (A0_4 : Option Addr) (c0_4 : Nat) (l0_4 : List (S25)) (A1 : Option Addr) (c1 : Nat) (l1 : List (S48)) (r : Bool) (w : World) (hr0_3 : Kd.C Kd.string w A0_3 l0_3.length l0_3) (hc0_3 : l0_3.length ≤ c0_3) (hr0_4 : Kd.C k25 w A0_4 l0_4.length l0_4) (hc0_4 : l0_4.length ≤ c0_4) (hr1 : Kd.C k48 w A1 l1.length l1) (hc1 : l1.length ≤ c1) (h : sealringlaw29_FieldChecks.f k a0_0 a0_1 a0_2 l0_3 l0_4 l1 = some r) :
    Calls Try.prog 6 #[.agg #[.int .i64 a0_0, .int .i64 a0_1, .string a0_2, .slice A0_3 l0_3.length c0_3, .slice A0_4 l0_4.length c0_4], .slice A1 l1.length c1] w fun e w' => e = .returned (.bool r) ∧ Below w.heap.size w w' := by
  have hu25 := Try.underlying25
  have hu48 := Try.underlying48
  have HR0_3 := Aside0.mk hr0_3
  have HC0_3 := Aside0.mk hc0_3
  clear hr0_3 hc0_3
  have HR0_4 := Aside0.mk hr0_4
  have HC0_4 := Aside0.mk hc0_4
  clear hr0_4 hc0_4
  have HR1 := Aside0.mk hr1
  have HC1 := Aside0.mk hc1
  clear hr1 hc1
  have HB := Aside0.mk (Below.refl w.heap.size w)
  have H : ((sealringlaw07_Few.f k a0_0 a0_1 a0_2 l0_3 l0_4 200).bind fun t591 => (if t591 = true then (sealringlaw29_FieldChecks.j0 k l1 (decide ((l1.length : Int) > 30)) a0_0 a0_1 a0_2 l0_3 l0_4) else (sealringlaw29_FieldChecks.j0 k l1 true a0_0 a0_1 a0_2 l0_3 l0_4))) = some r := h
  clear h
  have HC3 := Aside0.mk H
  clear H
  go_enter Try.func6, Try.ntmps6
  go_upto_region 1 with (first | ((with_reducible refine gate_dst (N := 2) rfl ?_); (try (refine gate_guard (by rfl) ?_; dsimp only)); refine box_event ?hg (N := 2) ?hd (cs := #[.int .i64 a0_0, .int .i64 a0_1, .string a0_2, .slice A0_3 l0_3.length c0_3, .slice A0_4 l0_4.length c0_4]) (t := 25) ?hr ?_; (case hd => rfl); (case hg => rfl); (case hr => first | (go_simp; done) | (go_simp; rfl)); intro gb590 hg w4 hbox hb; have n0_ := Aside0.mk (below_step (by repeat (first | (with_reducible first | exact HB.out | apply below_alloc | apply pw_below_drewN | apply below_drew1) | exact HB.out)) hb); have n1_ := Aside0.mk (hbox); have n2_ := Aside0.mk ((by rw [hg]; exact (below_size (by repeat (first | (with_reducible first | exact HB.out | apply below_alloc | apply pw_below_drewN | apply below_drew1) | exact HB.out))) : w.heap.size ≤ gb590)); have n3_ := Aside0.mk ((by rw [hg]; exact (below_size (by repeat (first | (with_reducible first | exact HB.out | apply below_alloc | apply pw_below_drewN | apply below_drew1) | exact HB.out))) : w.heap.size ≤ gb590)); clear HB; have HB := n0_; have BK590 := n1_; have GW590 := n2_; have GE590 := n3_; clear n0_ n1_ n2_ n3_; clear hb hbox hg))
  (try simp only [Act.put, List.setIfInBounds_toArray, List.set_cons_zero, List.set_cons_succ])
  go_cut [22] (fun v22 wc => ∃ (kq : Nat) (x22_2 : Bool), v22 = .bool x22_2 ∧ Aside0 (sealringlaw29_FieldChecks.j0 kq l1 x22_2 a0_0 a0_1 a0_2 l0_3 l0_4 = some r) ∧ Aside0 (kq ≤ k) ∧ Aside0 (wc.heap[gb590]? = some (.cells #[.int .i64 a0_0, .int .i64 a0_1, .string a0_2, (.slice A0_3 l0_3.length c0_3), (.slice A0_4 l0_4.length c0_4)] 25 (0, 0))) ∧ Aside0 (Below w.heap.size w wc))
  case first =>
    have H := HC3.out
    clear HC3
    replace H := Option.bind_eq_some_iff.mp H
    obtain ⟨t591, A50, H⟩ := H
    replace H : (if t591 = true then (sealringlaw29_FieldChecks.j0 k l1 (decide ((l1.length : Int) > 30)) a0_0 a0_1 a0_2 l0_3 l0_4) else (sealringlaw29_FieldChecks.j0 k l1 true a0_0 a0_1 a0_2 l0_3 l0_4)) = some r := H
    have A5 := Aside0.mk A50
    clear A50
    by_cases c6 : t591 = true
    · subst c6
      have H1 : (sealringlaw29_FieldChecks.j0 k l1 (decide ((l1.length : Int) > 30)) a0_0 a0_1 a0_2 l0_3 l0_4) = some r := by rw [if_pos rfl] at H; exact H
      clear H
      have H := H1
      clear H1
      have H' := Aside0.mk H
      clear H
      have hcz7_0 : w4.cell? ⟨gb590, 0, none⟩ = some (.int .i64 a0_0) := (blk_cell BK590.out 0).trans rfl
      have hcz7_1 : w4.cell? ⟨gb590, 1, none⟩ = some (.int .i64 a0_1) := (blk_cell BK590.out 1).trans rfl
      have hcz7_2 : w4.cell? ⟨gb590, 2, none⟩ = some (.string a0_2) := (blk_cell BK590.out 2).trans rfl
      have hcz7_3 : w4.cell? ⟨gb590, 3, none⟩ = some (.slice A0_3 l0_3.length c0_3) := (blk_cell BK590.out 3).trans rfl
      have hcz7_4 : w4.cell? ⟨gb590, 4, none⟩ = some (.slice A0_4 l0_4.length c0_4) := (blk_cell BK590.out 4).trans rfl
      have hfz7_0 := blk_frozen BK590.out 0
      have hfz7_1 := blk_frozen BK590.out 1
      have hfz7_2 := blk_frozen BK590.out 2
      have hfz7_3 := blk_frozen BK590.out 3
      have hfz7_4 := blk_frozen BK590.out 4
      go_wp2_with (first | ((with_reducible refine gate_callee (f := 13) rfl ?_); refine goesL_ (some 16) rfl rfl Try.func13 (by kernel_rfl) rfl #[.agg #[.int .i64 a0_0, .int .i64 a0_1, .string a0_2, .slice A0_3 l0_3.length c0_3, .slice A0_4 l0_4.length c0_4], .int .i64 200] rfl (by (try simp only [List.map_toArray, List.map_cons, List.map_nil]); first | done | rfl | (simp only [List.length_drop, List.length_take]; rfl)) ?_; (with_reducible refine (sealringlaw07_Few.calls k a0_0 a0_1 a0_2 _ _ l0_3 _ _ l0_4 200 true _ ?side1 ?side2 ?side3 ?side4 A5.out).mono ?_); (case side1 => repeat (first | exact (Kd.C_below HR0_3.out HB.out) | (with_reducible refine Kd.C_alloc ?_ _) | (with_reducible refine Kd.C_drewN ?_ _) | (with_reducible refine Kd.C_drew ?_))); (case side2 => exact HC0_3.out); (case side3 => repeat (first | exact (Kd.C_below HR0_4.out HB.out) | (with_reducible refine Kd.C_alloc ?_ _) | (with_reducible refine Kd.C_drewN ?_ _) | (with_reducible refine Kd.C_drew ?_))); (case side4 => exact HC0_4.out); rintro e w8 ⟨rfl, hb⟩; refine ⟨_, rfl, ?_⟩; have n0_ := Aside0.mk (blk_below (g := gb590) (o := .cells #[.int .i64 a0_0, .int .i64 a0_1, .string a0_2, .slice A0_3 l0_3.length c0_3, .slice A0_4 l0_4.length c0_4] 25 (0, 0)) (by (with_reducible repeat (first | refine blk_drewN ?_ _ | refine blk_drew ?_ | refine blk_alloc ?_ _)); exact BK590.out) hb); have n1_ := Aside0.mk (below_step (by repeat (first | (with_reducible first | exact HB.out | apply below_alloc | apply pw_below_drewN | apply below_drew1 | refine below_set ?_ GE590.out) | exact HB.out)) hb); clear BK590; clear HB; have BK590 := n0_; have HB := n1_; clear n0_ n1_; (try clear hb); (try clear hb2); (try clear hk); (try clear hi)))
      go_meet
      case rel => exact ⟨_, (decide ((l1.length : Int) > 30)), (by first | rfl | (simp; done) | (simp [*]; done)), (by first | with_reducible exact H' | exact H' | (subst_vars; exact H')), ⟨by first | omega | exact Nat.le_refl _⟩, ⟨by (with_reducible repeat (first | refine blk_drewN ?_ _ | refine blk_drew ?_ | refine blk_alloc ?_ _)); exact BK590.out⟩, ⟨by repeat (first | (with_reducible first | exact HB.out | apply below_alloc | apply pw_below_drewN | apply below_drew1 | refine below_set ?_ GE590.out) | exact HB.out)⟩⟩
    · replace c6 := Bool.eq_false_iff.mpr c6
      subst c6
      have H1 : (sealringlaw29_FieldChecks.j0 k l1 true a0_0 a0_1 a0_2 l0_3 l0_4) = some r := by rw [if_neg (show ¬ (false = true) by decide)] at H; exact H
      clear H
      have H := H1
      clear H1
      have H' := Aside0.mk H
      clear H
      have hcz9_0 : w4.cell? ⟨gb590, 0, none⟩ = some (.int .i64 a0_0) := (blk_cell BK590.out 0).trans rfl
      have hcz9_1 : w4.cell? ⟨gb590, 1, none⟩ = some (.int .i64 a0_1) := (blk_cell BK590.out 1).trans rfl
      have hcz9_2 : w4.cell? ⟨gb590, 2, none⟩ = some (.string a0_2) := (blk_cell BK590.out 2).trans rfl
      have hcz9_3 : w4.cell? ⟨gb590, 3, none⟩ = some (.slice A0_3 l0_3.length c0_3) := (blk_cell BK590.out 3).trans rfl
      have hcz9_4 : w4.cell? ⟨gb590, 4, none⟩ = some (.slice A0_4 l0_4.length c0_4) := (blk_cell BK590.out 4).trans rfl
      have hfz9_0 := blk_frozen BK590.out 0
      have hfz9_1 := blk_frozen BK590.out 1
      have hfz9_2 := blk_frozen BK590.out 2
      have hfz9_3 := blk_frozen BK590.out 3
      have hfz9_4 := blk_frozen BK590.out 4
      go_wp2_with (first | ((with_reducible refine gate_callee (f := 13) rfl ?_); refine goesL_ (some 16) rfl rfl Try.func13 (by kernel_rfl) rfl #[.agg #[.int .i64 a0_0, .int .i64 a0_1, .string a0_2, .slice A0_3 l0_3.length c0_3, .slice A0_4 l0_4.length c0_4], .int .i64 200] rfl (by (try simp only [List.map_toArray, List.map_cons, List.map_nil]); first | done | rfl | (simp only [List.length_drop, List.length_take]; rfl)) ?_; (with_reducible refine (sealringlaw07_Few.calls k a0_0 a0_1 a0_2 _ _ l0_3 _ _ l0_4 200 false _ ?side1 ?side2 ?side3 ?side4 A5.out).mono ?_); (case side1 => repeat (first | exact (Kd.C_below HR0_3.out HB.out) | (with_reducible refine Kd.C_alloc ?_ _) | (with_reducible refine Kd.C_drewN ?_ _) | (with_reducible refine Kd.C_drew ?_))); (case side2 => exact HC0_3.out); (case side3 => repeat (first | exact (Kd.C_below HR0_4.out HB.out) | (with_reducible refine Kd.C_alloc ?_ _) | (with_reducible refine Kd.C_drewN ?_ _) | (with_reducible refine Kd.C_drew ?_))); (case side4 => exact HC0_4.out); rintro e w10 ⟨rfl, hb⟩; refine ⟨_, rfl, ?_⟩; have n0_ := Aside0.mk (blk_below (g := gb590) (o := .cells #[.int .i64 a0_0, .int .i64 a0_1, .string a0_2, .slice A0_3 l0_3.length c0_3, .slice A0_4 l0_4.length c0_4] 25 (0, 0)) (by (with_reducible repeat (first | refine blk_drewN ?_ _ | refine blk_drew ?_ | refine blk_alloc ?_ _)); exact BK590.out) hb); have n1_ := Aside0.mk (below_step (by repeat (first | (with_reducible first | exact HB.out | apply below_alloc | apply pw_below_drewN | apply below_drew1 | refine below_set ?_ GE590.out) | exact HB.out)) hb); clear BK590; clear HB; have BK590 := n0_; have HB := n1_; clear n0_ n1_; (try clear hb); (try clear hb2); (try clear hk); (try clear hi)))
      go_meet
      case rel => exact ⟨_, (true), (by first | rfl | (simp; done) | (simp [*]; done)), (by first | with_reducible exact H' | exact H' | (subst_vars; exact H')), ⟨by first | omega | exact Nat.le_refl _⟩, ⟨by (with_reducible repeat (first | refine blk_drewN ?_ _ | refine blk_drew ?_ | refine blk_alloc ?_ _)); exact BK590.out⟩, ⟨by repeat (first | (with_reducible first | exact HB.out | apply below_alloc | apply pw_below_drewN | apply below_drew1 | refine below_set ?_ GE590.out) | exact HB.out)⟩⟩
  case rest =>
    clear HC3
    try clear c1
    try clear p2
    try clear c6
    try clear hcz7_0
    try clear hcz7_1
    try clear hcz7_2
    try clear hcz7_3
    try clear hcz7_4
    try clear hcz9_0
    try clear hcz9_1
    try clear hcz9_2
    try clear hcz9_3
    try clear hcz9_4
    try clear hfz7_0
    try clear hfz7_1
    try clear hfz7_2
    try clear hfz7_3
    try clear hfz7_4
    try clear hfz9_0
    try clear hfz9_1
    try clear hfz9_2
    try clear hfz9_3
    try clear hfz9_4
    obtain ⟨kq, x22_2, rfl, HA, HJ2, BK590, HB⟩ := hcut
    cases kq with
    | zero => exact absurd HA.out (by simp [sealringlaw29_FieldChecks.j0])
    | succ kj2 =>
      have H := HA.out
      clear HA
      simp only [sealringlaw29_FieldChecks.j0] at H
      by_cases c11 : x22_2 = true
      · subst c11
        have H1 : ((sealringlaw29_lives.f kj2).bind fun t592 => (some t592)) = some r := by rw [if_pos rfl] at H; exact H
        clear H
        have H := H1
        clear H1
        replace H := Option.bind_eq_some_iff.mp H
        obtain ⟨t592, A120, H⟩ := H
        replace H : (some t592) = some r := H
        have A12 := Aside0.mk A120
        clear A120
        obtain rfl := Option.some.inj H
        go_wp2_with (first | ((with_reducible refine gate_callee (f := 25) rfl ?_); refine goesL_ (some 23) rfl rfl Try.func25 (by kernel_rfl) rfl #[] rfl (by (try simp only [List.map_toArray, List.map_cons, List.map_nil]); first | done | rfl | (simp only [List.length_drop, List.length_take]; rfl)) ?_; (with_reducible refine (sealringlaw29_lives.calls kj2  t592 _ A12.out).mono ?_); rintro e w13 ⟨rfl, hb⟩; refine ⟨_, rfl, ?_⟩; have n0_ := Aside0.mk (blk_below (g := gb590) (o := .cells #[.int .i64 a0_0, .int .i64 a0_1, .string a0_2, .slice A0_3 l0_3.length c0_3, .slice A0_4 l0_4.length c0_4] 25 (0, 0)) (by (with_reducible repeat (first | refine blk_drewN ?_ _ | refine blk_drew ?_ | refine blk_alloc ?_ _)); exact BK590.out) hb); have n1_ := Aside0.mk (below_step (by repeat (first | (with_reducible first | exact HB.out | apply below_alloc | apply pw_below_drewN | apply below_drew1 | refine below_set ?_ GE590.out) | exact HB.out)) hb); clear BK590; clear HB; have BK590 := n0_; have HB := n1_; clear n0_ n1_; (try clear hb); (try clear hb2); (try clear hk); (try clear hi)))
        go_ret
        exact ⟨by first | rfl | (simp [errW_none, errW_some] <;> rfl) | (simp [*, errW_none, errW_some] <;> rfl), by repeat (first | (with_reducible first | exact HB.out | apply below_alloc | apply pw_below_drewN | apply below_drew1 | refine below_set ?_ GE590.out) | exact HB.out)⟩
      · replace c11 := Bool.eq_false_iff.mpr c11
        subst c11
        have H1 : ((field_Check.f kj2 a0_0 a0_1 a0_2 l0_3 l0_4 l1).bind fun bt593 => ((sealringref29_Check.f kj2 a0_0 a0_1 a0_2 l0_3 l0_4 l1).bind fun bt595 => (if bt593.1.toList = bt595.1.toList then (sealringlaw29_FieldChecks.j1 kj2 l1 (bt593.2 != bt595.2) a0_0 a0_1 a0_2 l0_3 l0_4) else (sealringlaw29_FieldChecks.j1 kj2 l1 true a0_0 a0_1 a0_2 l0_3 l0_4)))) = some r := by rw [if_neg (show ¬ (false = true) by decide)] at H; exact H
        clear H
        have H := H1
        clear H1
        replace H := Option.bind_eq_some_iff.mp H
        obtain ⟨⟨t593, t594⟩, A140, H⟩ := H
        replace H : ((sealringref29_Check.f kj2 a0_0 a0_1 a0_2 l0_3 l0_4 l1).bind fun bt595 => (if t593.toList = bt595.1.toList then (sealringlaw29_FieldChecks.j1 kj2 l1 (t594 != bt595.2) a0_0 a0_1 a0_2 l0_3 l0_4) else (sealringlaw29_FieldChecks.j1 kj2 l1 true a0_0 a0_1 a0_2 l0_3 l0_4))) = some r := H
        have A14 := Aside0.mk A140
        clear A140
        replace H := Option.bind_eq_some_iff.mp H
        obtain ⟨⟨t595, t596⟩, A150, H⟩ := H
        replace H : (if t593.toList = t595.toList then (sealringlaw29_FieldChecks.j1 kj2 l1 (t594 != t596) a0_0 a0_1 a0_2 l0_3 l0_4) else (sealringlaw29_FieldChecks.j1 kj2 l1 true a0_0 a0_1 a0_2 l0_3 l0_4)) = some r := H
        have A15 := Aside0.mk A150
        clear A150
        have HC16 := Aside0.mk H
        clear H
        have hcz17_0 : wc.cell? ⟨gb590, 0, none⟩ = some (.int .i64 a0_0) := (blk_cell BK590.out 0).trans rfl
        have hcz17_1 : wc.cell? ⟨gb590, 1, none⟩ = some (.int .i64 a0_1) := (blk_cell BK590.out 1).trans rfl
        have hcz17_2 : wc.cell? ⟨gb590, 2, none⟩ = some (.string a0_2) := (blk_cell BK590.out 2).trans rfl
        have hcz17_3 : wc.cell? ⟨gb590, 3, none⟩ = some (.slice A0_3 l0_3.length c0_3) := (blk_cell BK590.out 3).trans rfl
        have hcz17_4 : wc.cell? ⟨gb590, 4, none⟩ = some (.slice A0_4 l0_4.length c0_4) := (blk_cell BK590.out 4).trans rfl
        have hfz17_0 := blk_frozen BK590.out 0
        have hfz17_1 := blk_frozen BK590.out 1
        have hfz17_2 := blk_frozen BK590.out 2
        have hfz17_3 := blk_frozen BK590.out 3
        have hfz17_4 := blk_frozen BK590.out 4
        go_upto_region 5 with (first | ((with_reducible refine gate_callee (f := 30) rfl ?_); refine goesL_ (some 27) rfl rfl Try.func30 (by kernel_rfl) rfl #[.agg #[.int .i64 a0_0, .int .i64 a0_1, .string a0_2, .slice A0_3 l0_3.length c0_3, .slice A0_4 l0_4.length c0_4], .slice A1 l1.length c1] rfl (by (try simp only [List.map_toArray, List.map_cons, List.map_nil]); first | done | rfl | (simp only [List.length_drop, List.length_take]; rfl)) ?_; (with_reducible refine (field_Check.calls kj2 a0_0 a0_1 a0_2 _ _ l0_3 _ _ l0_4 _ _ l1 t593 t594 _ ?side1 ?side2 ?side3 ?side4 ?side5 ?side6 A14.out).mono ?_); (case side1 => repeat (first | exact (Kd.C_below HR0_3.out HB.out) | (with_reducible refine Kd.C_alloc ?_ _) | (with_reducible refine Kd.C_drewN ?_ _) | (with_reducible refine Kd.C_drew ?_))); (case side2 => exact HC0_3.out); (case side3 => repeat (first | exact (Kd.C_below HR0_4.out HB.out) | (with_reducible refine Kd.C_alloc ?_ _) | (with_reducible refine Kd.C_drewN ?_ _) | (with_reducible refine Kd.C_drew ?_))); (case side4 => exact HC0_4.out); (case side5 => repeat (first | exact (Kd.C_below HR1.out HB.out) | (with_reducible refine Kd.C_alloc ?_ _) | (with_reducible refine Kd.C_drewN ?_ _) | (with_reducible refine Kd.C_drew ?_))); (case side6 => exact HC1.out); rintro e w18 ⟨rfl, hb⟩; refine ⟨_, rfl, ?_⟩; have n0_ := Aside0.mk (blk_below (g := gb590) (o := .cells #[.int .i64 a0_0, .int .i64 a0_1, .string a0_2, .slice A0_3 l0_3.length c0_3, .slice A0_4 l0_4.length c0_4] 25 (0, 0)) (by (with_reducible repeat (first | refine blk_drewN ?_ _ | refine blk_drew ?_ | refine blk_alloc ?_ _)); exact BK590.out) hb); have n1_ := Aside0.mk (below_step (by repeat (first | (with_reducible first | exact HB.out | apply below_alloc | apply pw_below_drewN | apply below_drew1 | refine below_set ?_ GE590.out) | exact HB.out)) hb); clear BK590; clear HB; have BK590 := n0_; have HB := n1_; clear n0_ n1_; (try clear hb); (try clear hb2); (try clear hk); (try clear hi); have hcz19_0 : w18.cell? ⟨gb590, 0, none⟩ = some (.int .i64 a0_0) := (blk_cell BK590.out 0).trans rfl; have hcz19_1 : w18.cell? ⟨gb590, 1, none⟩ = some (.int .i64 a0_1) := (blk_cell BK590.out 1).trans rfl; have hcz19_2 : w18.cell? ⟨gb590, 2, none⟩ = some (.string a0_2) := (blk_cell BK590.out 2).trans rfl; have hcz19_3 : w18.cell? ⟨gb590, 3, none⟩ = some (.slice A0_3 l0_3.length c0_3) := (blk_cell BK590.out 3).trans rfl; have hcz19_4 : w18.cell? ⟨gb590, 4, none⟩ = some (.slice A0_4 l0_4.length c0_4) := (blk_cell BK590.out 4).trans rfl; have hfz19_0 := blk_frozen BK590.out 0; have hfz19_1 := blk_frozen BK590.out 1; have hfz19_2 := blk_frozen BK590.out 2; have hfz19_3 := blk_frozen BK590.out 3; have hfz19_4 := blk_frozen BK590.out 4) | ((with_reducible refine gate_callee (f := 31) rfl ?_); refine goesL_ (some 33) rfl rfl Try.func31 (by kernel_rfl) rfl #[.agg #[.int .i64 a0_0, .int .i64 a0_1, .string a0_2, .slice A0_3 l0_3.length c0_3, .slice A0_4 l0_4.length c0_4], .slice A1 l1.length c1] rfl (by (try simp only [List.map_toArray, List.map_cons, List.map_nil]); first | done | rfl | (simp only [List.length_drop, List.length_take]; rfl)) ?_; (with_reducible refine (sealringref29_Check.calls kj2 a0_0 a0_1 a0_2 _ _ l0_3 _ _ l0_4 _ _ l1 t595 t596 _ ?side1 ?side2 ?side3 ?side4 ?side5 ?side6 A15.out).mono ?_); (case side1 => repeat (first | exact (Kd.C_below HR0_3.out HB.out) | (with_reducible refine Kd.C_alloc ?_ _) | (with_reducible refine Kd.C_drewN ?_ _) | (with_reducible refine Kd.C_drew ?_))); (case side2 => exact HC0_3.out); (case side3 => repeat (first | exact (Kd.C_below HR0_4.out HB.out) | (with_reducible refine Kd.C_alloc ?_ _) | (with_reducible refine Kd.C_drewN ?_ _) | (with_reducible refine Kd.C_drew ?_))); (case side4 => exact HC0_4.out); (case side5 => repeat (first | exact (Kd.C_below HR1.out HB.out) | (with_reducible refine Kd.C_alloc ?_ _) | (with_reducible refine Kd.C_drewN ?_ _) | (with_reducible refine Kd.C_drew ?_))); (case side6 => exact HC1.out); rintro e w20 ⟨rfl, hb⟩; refine ⟨_, rfl, ?_⟩; have n0_ := Aside0.mk (blk_below (g := gb590) (o := .cells #[.int .i64 a0_0, .int .i64 a0_1, .string a0_2, .slice A0_3 l0_3.length c0_3, .slice A0_4 l0_4.length c0_4] 25 (0, 0)) (by (with_reducible repeat (first | refine blk_drewN ?_ _ | refine blk_drew ?_ | refine blk_alloc ?_ _)); exact BK590.out) hb); have n1_ := Aside0.mk (below_step (by repeat (first | (with_reducible first | exact HB.out | apply below_alloc | apply pw_below_drewN | apply below_drew1 | refine below_set ?_ GE590.out) | exact HB.out)) hb); clear BK590; clear HB; have BK590 := n0_; have HB := n1_; clear n0_ n1_; (try clear hb); (try clear hb2); (try clear hk); (try clear hi)))
        (try simp only [Act.put, List.setIfInBounds_toArray, List.set_cons_zero, List.set_cons_succ])
        go_cut [43] (fun v43 wc => ∃ (kq : Nat) (x43_15 : Bool), v43 = .bool x43_15 ∧ Aside0 (sealringlaw29_FieldChecks.j1 kq l1 x43_15 a0_0 a0_1 a0_2 l0_3 l0_4 = some r) ∧ Aside0 (kq ≤ kj2) ∧ Aside0 (wc.heap[gb590]? = some (.cells #[.int .i64 a0_0, .int .i64 a0_1, .string a0_2, (.slice A0_3 l0_3.length c0_3), (.slice A0_4 l0_4.length c0_4)] 25 (0, 0))) ∧ Aside0 (Below w.heap.size w wc))
        case first =>
          have H := HC16.out
          clear HC16
          by_cases c21 : t593.toList = t595.toList
          · rw [if_pos c21] at H
            have c21b0 : (t593.toList == t595.toList) = true := beq_iff_eq.mpr c21
            have c21b1 : (t593.toList != t595.toList) = false := bne_eq_false_iff_eq.mpr c21
            clear c21
            (first | rw [c21b0] | (simp only [i64_w, i32_w]; rw [c21b0]) | skip)
            have H' := Aside0.mk H
            clear H
            go_wp2
            go_meet
            case rel => exact ⟨_, ((t594 != t596)), (by first | rfl | (simp; done) | (simp [*]; done)), (by first | with_reducible exact H' | exact H' | (subst_vars; exact H')), ⟨by have := HJ2.out; first | omega | exact Nat.le_refl _⟩, ⟨by (with_reducible repeat (first | refine blk_drewN ?_ _ | refine blk_drew ?_ | refine blk_alloc ?_ _)); exact BK590.out⟩, ⟨by repeat (first | (with_reducible first | exact HB.out | apply below_alloc | apply pw_below_drewN | apply below_drew1 | refine below_set ?_ GE590.out) | exact HB.out)⟩⟩
          · rw [if_neg c21] at H
            have c21b0 : (t593.toList == t595.toList) = false := beq_eq_false_iff_ne.mpr c21
            have c21b1 : (t593.toList != t595.toList) = true := bne_iff_ne.mpr c21
            (first | rw [c21b0] | (simp only [i64_w, i32_w]; rw [c21b0]) | skip)
            have H' := Aside0.mk H
            clear H
            go_wp2
            go_meet
            case rel => exact ⟨_, (true), (by first | rfl | (simp; done) | (simp [*]; done)), (by first | with_reducible exact H' | exact H' | (subst_vars; exact H')), ⟨by have := HJ2.out; first | omega | exact Nat.le_refl _⟩, ⟨by (with_reducible repeat (first | refine blk_drewN ?_ _ | refine blk_drew ?_ | refine blk_alloc ?_ _)); exact BK590.out⟩, ⟨by repeat (first | (with_reducible first | exact HB.out | apply below_alloc | apply pw_below_drewN | apply below_drew1 | refine below_set ?_ GE590.out) | exact HB.out)⟩⟩
        case rest =>
          clear HC16
          try clear c1
          try clear c2
          try clear p2
          try clear c3
          try clear c6
          try clear c11
          try clear c13
          try clear c21
          try clear c21b0
          try clear c21b1
          try clear hcz17_0
          try clear hcz17_1
          try clear hcz17_2
          try clear hcz17_3
          try clear hcz17_4
          try clear hcz19_0
          try clear hcz19_1
          try clear hcz19_2
          try clear hcz19_3
          try clear hcz19_4
          try clear hcz7_0
          try clear hcz7_1
          try clear hcz7_2
          try clear hcz7_3
          try clear hcz7_4
          try clear hcz9_0
          try clear hcz9_1
          try clear hcz9_2
          try clear hcz9_3
          try clear hcz9_4
          try clear hfz17_0
          try clear hfz17_1
          try clear hfz17_2
          try clear hfz17_3
          try clear hfz17_4
          try clear hfz19_0
          try clear hfz19_1
          try clear hfz19_2
          try clear hfz19_3
          try clear hfz19_4
          try clear hfz7_0
          try clear hfz7_1
          try clear hfz7_2
          try clear hfz7_3
          try clear hfz7_4
          try clear hfz9_0
          try clear hfz9_1
          try clear hfz9_2
          try clear hfz9_3
          try clear hfz9_4
          try clear p2
          obtain ⟨kq, x43_15, rfl, HA, HJ15, BK590, HB⟩ := hcut
          cases kq with
          | zero => exact absurd HA.out (by simp [sealringlaw29_FieldChecks.j1])
          | succ kj15 =>
            have H := HA.out
            clear HA
            simp only [sealringlaw29_FieldChecks.j1] at H
            by_cases c22 : x43_15 = true
            · subst c22
              have H1 : (some false) = some r := by rw [if_pos rfl] at H; exact H
              clear H
              have H := H1
              clear H1
              obtain rfl := Option.some.inj H
              go_wp2
              go_ret
              exact ⟨by first | rfl | (simp [errW_none, errW_some] <;> rfl) | (simp [*, errW_none, errW_some] <;> rfl), by repeat (first | (with_reducible first | exact HB.out | apply below_alloc | apply pw_below_drewN | apply below_drew1 | refine below_set ?_ GE590.out) | exact HB.out)⟩
            · replace c22 := Bool.eq_false_iff.mpr c22
              subst c22
              have H1 : (sealringlaw29_FieldChecks.l0 kj15 l1 (l1.length : Int) 0 a0_0 a0_1 a0_2 l0_3 l0_4) = some r := by rw [if_neg (show ¬ (false = true) by decide)] at H; exact H
              clear H
              have H := H1
              clear H1
              have H' := Aside0.mk H
              clear H
              go_wp2
              go_loopg [46] kj15 (fun kq v46 w' => ∃ (x46_3 : Int), v46 = .int .i64 x46_3 ∧ Aside0 (sealringlaw29_FieldChecks.l0 kq l1 (l1.length : Int) x46_3 a0_0 a0_1 a0_2 l0_3 l0_4 = some r) ∧ Aside0 (kq ≤ kj15) ∧ Aside0 (w'.heap[gb590]? = some (.cells #[.int .i64 a0_0, .int .i64 a0_1, .string a0_2, (.slice A0_3 l0_3.length c0_3), (.slice A0_4 l0_4.length c0_4)] 25 (0, 0))) ∧ Aside0 (Below w.heap.size w w'))
              case atStart => exact ⟨(0), (by first | rfl | (simp; done) | (simp [*]; done)), (by first | with_reducible exact H' | exact H' | (subst_vars; exact H')), ⟨Nat.le_refl _⟩, ⟨by (with_reducible repeat (first | refine blk_drewN ?_ _ | refine blk_drew ?_ | refine blk_alloc ?_ _)); exact BK590.out⟩, ⟨by repeat (first | (with_reducible first | exact HB.out | apply below_alloc | apply pw_below_drewN | apply below_drew1 | refine below_set ?_ GE590.out) | exact HB.out)⟩⟩
              case round =>
                clear H'
                try clear c1
                try clear c2
                try clear p2
                try clear c3
                try clear c6
                try clear c11
                try clear c13
                try clear c21
                try clear c21b0
                try clear c21b1
                try clear c22
                try clear hcz17_0
                try clear hcz17_1
                try clear hcz17_2
                try clear hcz17_3
                try clear hcz17_4
                try clear hcz19_0
                try clear hcz19_1
                try clear hcz19_2
                try clear hcz19_3
                try clear hcz19_4
                try clear hcz7_0
                try clear hcz7_1
                try clear hcz7_2
                try clear hcz7_3
                try clear hcz7_4
                try clear hcz9_0
                try clear hcz9_1
                try clear hcz9_2
                try clear hcz9_3
                try clear hcz9_4
                try clear hfz17_0
                try clear hfz17_1
                try clear hfz17_2
                try clear hfz17_3
                try clear hfz17_4
                try clear hfz19_0
                try clear hfz19_1
                try clear hfz19_2
                try clear hfz19_3
                try clear hfz19_4
                try clear hfz7_0
                try clear hfz7_1
                try clear hfz7_2
                try clear hfz7_3
                try clear hfz7_4
                try clear hfz9_0
                try clear hfz9_1
                try clear hfz9_2
                try clear hfz9_3
                try clear hfz9_4
                try clear p2
                obtain ⟨x46_3, rfl, HA, HK3, BK590, HB⟩ := hrel
                cases gk with
                | zero => exact absurd HA.out (by simp [sealringlaw29_FieldChecks.l0])
                | succ k3 =>
                  have H := HA.out
                  clear HA
                  simp only [sealringlaw29_FieldChecks.l0] at H
                  by_cases c23 : x46_3 < (l1.length : Int)
                  · rw [if_pos c23] at H
                    have c23b0 : decide (x46_3 < (l1.length : Int)) = true := decide_eq_true c23
                    clear c23
                    by_cases c24 : 0 ≤ x46_3
                    · rw [if_pos c24] at H
                      have c24b0 : decide (0 ≤ x46_3) = true := decide_eq_true c24
                      clear c24
                      by_cases c25 : x46_3 < (l1.length : Int)
                      · rw [if_pos c25] at H
                        have c25b0 : decide (x46_3 < (l1.length : Int)) = true := decide_eq_true c25
                        clear c25
                        replace H := Option.bind_eq_some_iff.mp H
                        obtain ⟨⟨t600, t601⟩, A260, H⟩ := H
                        replace H : ((sealringref29_Text.f k3 a0_0 a0_1 a0_2 l0_3 l0_4 ((rd_T48 l1 x46_3).f0)).bind fun bt602 => (if t600.toList = bt602.1.toList then (if (t601 != bt602.2) = true then (some false) else (sealringlaw29_FieldChecks.l0 k3 l1 (l1.length : Int) (wrap64 (x46_3 + 1)) a0_0 a0_1 a0_2 l0_3 l0_4)) else (some false))) = some r := H
                        have A26 := Aside0.mk A260
                        clear A260
                        replace H := Option.bind_eq_some_iff.mp H
                        obtain ⟨⟨t602, t603⟩, A270, H⟩ := H
                        replace H : (if t600.toList = t602.toList then (if (t601 != t603) = true then (some false) else (sealringlaw29_FieldChecks.l0 k3 l1 (l1.length : Int) (wrap64 (x46_3 + 1)) a0_0 a0_1 a0_2 l0_3 l0_4)) else (some false)) = some r := H
                        have A27 := Aside0.mk A270
                        clear A270
                        by_cases c28 : t600.toList = t602.toList
                        · rw [if_pos c28] at H
                          have c28b0 : (t600.toList == t602.toList) = true := beq_iff_eq.mpr c28
                          have c28b1 : (t600.toList != t602.toList) = false := bne_eq_false_iff_eq.mpr c28
                          clear c28
                          by_cases c29 : (t601 != t603) = true
                          · rw [if_pos c29] at H
                            have c29b0 : (t601 != t603) = true := c29
                            (try (have c29b1 : decide (t601 = t603) = false := by simpa using c29))
                            (try (have c29b2 : (t601 == t603) = false := by simpa using c29))
                            (try (have c29b3 : ¬ (t601 = t603) := by simpa using c29))
                            clear c29
                            obtain rfl := Option.some.inj H
                            have p598 : 0 ≤ (x46_3 : Int) := of_decide_eq_true (by first | (with_reducible assumption) | assumption)
                            have q598 : x46_3 < (l1.length : Int) := of_decide_eq_true (by first | (with_reducible assumption) | assumption)
                            obtain ⟨ad598, e598, hx598_0, hx598_1, hx598_2, hx598_3, hx598_4⟩ := at_T48 HR1.out x46_3 p598 q598
                            cases e598
                            (try replace hx598_0 := (HB.out.cell (World.block_lt_of_cell? w _ hx598_0)).trans hx598_0)
                            (try replace hx598_1 := (HB.out.cell (World.block_lt_of_cell? w _ hx598_1)).trans hx598_1)
                            (try replace hx598_2 := (HB.out.cell (World.block_lt_of_cell? w _ hx598_2)).trans hx598_2)
                            (try replace hx598_3 := (HB.out.cell (World.block_lt_of_cell? w _ hx598_3)).trans hx598_3)
                            (try replace hx598_4 := (HB.out.cell (World.block_lt_of_cell? w _ hx598_4)).trans hx598_4)
                            replace p598 := eq_true p598
                            replace q598 := eq_true q598
                            go_wp2_with (first | ((with_reducible refine gate_dst (N := 10) rfl ?_); (try (refine gate_guard (by rfl) ?_; dsimp only)); refine box_event ?hg (N := 10) ?hd (cs := #[.string (⟨#[]⟩ : ByteArray), .int .i64 0, .bool false, .int .i64 0, .bool false]) (t := 48) ?hr ?_; (case hd => rfl); (case hg => rfl); (case hr => first | (go_simp; done) | (go_simp; rfl)); intro gb599 hg w30 hbox hb; have n0_ := Aside0.mk (blk_below (g := gb590) (o := .cells #[.int .i64 a0_0, .int .i64 a0_1, .string a0_2, .slice A0_3 l0_3.length c0_3, .slice A0_4 l0_4.length c0_4] 25 (0, 0)) (by (with_reducible repeat (first | refine blk_drewN ?_ _ | refine blk_drew ?_ | refine blk_alloc ?_ _)); exact BK590.out) hb); have n1_ := Aside0.mk (below_step (by repeat (first | (with_reducible first | exact HB.out | apply below_alloc | apply pw_below_drewN | apply below_drew1 | refine below_set ?_ GE590.out) | exact HB.out)) hb); have n2_ := Aside0.mk (hbox); have n3_ := Aside0.mk ((by rw [hg]; exact (below_size (by repeat (first | (with_reducible first | exact HB.out | apply below_alloc | apply pw_below_drewN | apply below_drew1 | refine below_set ?_ GE590.out) | exact HB.out))) : w.heap.size ≤ gb599)); have n4_ := Aside0.mk ((by rw [hg]; exact (below_size (by repeat (first | (with_reducible first | exact HB.out | apply below_alloc | apply pw_below_drewN | apply below_drew1 | refine below_set ?_ GE590.out) | exact HB.out))) : w.heap.size ≤ gb599)); have n5_ := Aside0.mk ((by rw [hg]; exact Nat.ne_of_lt (blk_lt (g := gb590) (o := .cells #[.int .i64 a0_0, .int .i64 a0_1, .string a0_2, .slice A0_3 l0_3.length c0_3, .slice A0_4 l0_4.length c0_4] 25 (0, 0)) (by (with_reducible repeat (first | refine blk_drewN ?_ _ | refine blk_drew ?_ | refine blk_alloc ?_ _)); exact BK590.out)) : gb590 ≠ gb599)); have n6_ := Aside0.mk ((by rw [hg]; exact Nat.ne_of_gt (blk_lt (g := gb590) (o := .cells #[.int .i64 a0_0, .int .i64 a0_1, .string a0_2, .slice A0_3 l0_3.length c0_3, .slice A0_4 l0_4.length c0_4] 25 (0, 0)) (by (with_reducible repeat (first | refine blk_drewN ?_ _ | refine blk_drew ?_ | refine blk_alloc ?_ _)); exact BK590.out)) : gb599 ≠ gb590)); clear BK590; clear HB; have BK590 := n0_; have HB := n1_; have BK599 := n2_; have GW599 := n3_; have GE599 := n4_; have NB590_599 := n5_; have NB599_590 := n6_; clear n0_ n1_ n2_ n3_ n4_ n5_ n6_; clear hb hbox hg; have hnb31 := NB599_590.out; have hnc31 := NB590_599.out; have hcz32_0 : w30.cell? ⟨gb599, 0, none⟩ = some (.string (⟨#[]⟩ : ByteArray)) := (blk_cell BK599.out 0).trans rfl; have hcz32_1 : w30.cell? ⟨gb599, 1, none⟩ = some (.int .i64 0) := (blk_cell BK599.out 1).trans rfl; have hcz32_2 : w30.cell? ⟨gb599, 2, none⟩ = some (.bool false) := (blk_cell BK599.out 2).trans rfl; have hcz32_3 : w30.cell? ⟨gb599, 3, none⟩ = some (.int .i64 0) := (blk_cell BK599.out 3).trans rfl; have hcz32_4 : w30.cell? ⟨gb599, 4, none⟩ = some (.bool false) := (blk_cell BK599.out 4).trans rfl; have hfz32_0 := blk_frozen BK599.out 0; have hfz32_1 := blk_frozen BK599.out 1; have hfz32_2 := blk_frozen BK599.out 2; have hfz32_3 := blk_frozen BK599.out 3; have hfz32_4 := blk_frozen BK599.out 4; have hcz33_0 : w30.cell? ⟨gb590, 0, none⟩ = some (.int .i64 a0_0) := (blk_cell BK590.out 0).trans rfl; have hcz33_1 : w30.cell? ⟨gb590, 1, none⟩ = some (.int .i64 a0_1) := (blk_cell BK590.out 1).trans rfl; have hcz33_2 : w30.cell? ⟨gb590, 2, none⟩ = some (.string a0_2) := (blk_cell BK590.out 2).trans rfl; have hcz33_3 : w30.cell? ⟨gb590, 3, none⟩ = some (.slice A0_3 l0_3.length c0_3) := (blk_cell BK590.out 3).trans rfl; have hcz33_4 : w30.cell? ⟨gb590, 4, none⟩ = some (.slice A0_4 l0_4.length c0_4) := (blk_cell BK590.out 4).trans rfl; have hfz33_0 := blk_frozen BK590.out 0; have hfz33_1 := blk_frozen BK590.out 1; have hfz33_2 := blk_frozen BK590.out 2; have hfz33_3 := blk_frozen BK590.out 3; have hfz33_4 := blk_frozen BK590.out 4) | ((with_reducible refine gate_callee (f := 32) rfl ?_); refine goesL_ (some 54) rfl rfl Try.func32 (by kernel_rfl) rfl #[.agg #[.int .i64 a0_0, .int .i64 a0_1, .string a0_2, .slice A0_3 l0_3.length c0_3, .slice A0_4 l0_4.length c0_4], .string ((rd_T48 l1 x46_3).f0)] rfl (by (try simp only [List.map_toArray, List.map_cons, List.map_nil]); first | done | rfl | (simp only [List.length_drop, List.length_take]; rfl)) ?_; (with_reducible refine (field_Text.calls k3 a0_0 a0_1 a0_2 _ _ l0_3 _ _ l0_4 ((rd_T48 l1 x46_3).f0) t600 t601 _ ?side1 ?side2 ?side3 ?side4 A26.out).mono ?_); (case side1 => exact Kd.C_below HR0_3.out (by repeat (first | (with_reducible first | exact HB.out | apply below_alloc | apply pw_below_drewN | apply below_drew1 | refine below_set ?_ GE590.out | refine below_set ?_ GE599.out) | exact HB.out))); (case side2 => exact HC0_3.out); (case side3 => exact Kd.C_below HR0_4.out (by repeat (first | (with_reducible first | exact HB.out | apply below_alloc | apply pw_below_drewN | apply below_drew1 | refine below_set ?_ GE590.out | refine below_set ?_ GE599.out) | exact HB.out))); (case side4 => exact HC0_4.out); rintro e w34 ⟨rfl, hb⟩; refine ⟨_, rfl, ?_⟩; have n0_ := Aside0.mk (blk_below (g := gb590) (o := .cells #[.int .i64 a0_0, .int .i64 a0_1, .string a0_2, .slice A0_3 l0_3.length c0_3, .slice A0_4 l0_4.length c0_4] 25 (0, 0)) (by (with_reducible repeat (first | refine blk_drewN ?_ _ | refine blk_drew ?_ | refine blk_alloc ?_ _)); refine blk_far ?_ NB590_599.out _; (with_reducible repeat (first | refine blk_drewN ?_ _ | refine blk_drew ?_ | refine blk_alloc ?_ _)); refine blk_far ?_ NB590_599.out _; (with_reducible repeat (first | refine blk_drewN ?_ _ | refine blk_drew ?_ | refine blk_alloc ?_ _)); refine blk_far ?_ NB590_599.out _; (with_reducible repeat (first | refine blk_drewN ?_ _ | refine blk_drew ?_ | refine blk_alloc ?_ _)); refine blk_far ?_ NB590_599.out _; (with_reducible repeat (first | refine blk_drewN ?_ _ | refine blk_drew ?_ | refine blk_alloc ?_ _)); refine blk_far ?_ NB590_599.out _; (with_reducible repeat (first | refine blk_drewN ?_ _ | refine blk_drew ?_ | refine blk_alloc ?_ _)); exact BK590.out) hb); have n1_ := Aside0.mk (blk_below (g := gb599) (o := .cells #[.string ((rd_T48 l1 x46_3).f0), .int .i64 ((rd_T48 l1 x46_3).f1), .bool ((rd_T48 l1 x46_3).f2), .int .i64 ((rd_T48 l1 x46_3).f3), .bool ((rd_T48 l1 x46_3).f4)] 48 (0, 0)) (by (with_reducible repeat (first | refine blk_drewN ?_ _ | refine blk_drew ?_ | refine blk_alloc ?_ _)); refine blk_put (cs := #[.string ((rd_T48 l1 x46_3).f0), .int .i64 ((rd_T48 l1 x46_3).f1), .bool ((rd_T48 l1 x46_3).f2), .int .i64 ((rd_T48 l1 x46_3).f3), .bool false]) ?_ 4 _ rfl; (with_reducible repeat (first | refine blk_drewN ?_ _ | refine blk_drew ?_ | refine blk_alloc ?_ _)); refine blk_put (cs := #[.string ((rd_T48 l1 x46_3).f0), .int .i64 ((rd_T48 l1 x46_3).f1), .bool ((rd_T48 l1 x46_3).f2), .int .i64 0, .bool false]) ?_ 3 _ rfl; (with_reducible repeat (first | refine blk_drewN ?_ _ | refine blk_drew ?_ | refine blk_alloc ?_ _)); refine blk_put (cs := #[.string ((rd_T48 l1 x46_3).f0), .int .i64 ((rd_T48 l1 x46_3).f1), .bool false, .int .i64 0, .bool false]) ?_ 2 _ rfl; (with_reducible repeat (first | refine blk_drewN ?_ _ | refine blk_drew ?_ | refine blk_alloc ?_ _)); refine blk_put (cs := #[.string ((rd_T48 l1 x46_3).f0), .int .i64 0, .bool false, .int .i64 0, .bool false]) ?_ 1 _ rfl; (with_reducible repeat (first | refine blk_drewN ?_ _ | refine blk_drew ?_ | refine blk_alloc ?_ _)); refine blk_put (cs := #[.string (⟨#[]⟩ : ByteArray), .int .i64 0, .bool false, .int .i64 0, .bool false]) ?_ 0 _ rfl; (with_reducible repeat (first | refine blk_drewN ?_ _ | refine blk_drew ?_ | refine blk_alloc ?_ _)); exact BK599.out) hb); have n2_ := Aside0.mk (below_step (by repeat (first | (with_reducible first | exact HB.out | apply below_alloc | apply pw_below_drewN | apply below_drew1 | refine below_set ?_ GE590.out | refine below_set ?_ GE599.out) | exact HB.out)) hb); clear BK590; clear BK599; clear HB; have BK590 := n0_; have BK599 := n1_; have HB := n2_; clear n0_ n1_ n2_; (try clear hb); (try clear hb2); (try clear hk); (try clear hi); have hcz35_0 : w34.cell? ⟨gb590, 0, none⟩ = some (.int .i64 a0_0) := (blk_cell BK590.out 0).trans rfl; have hcz35_1 : w34.cell? ⟨gb590, 1, none⟩ = some (.int .i64 a0_1) := (blk_cell BK590.out 1).trans rfl; have hcz35_2 : w34.cell? ⟨gb590, 2, none⟩ = some (.string a0_2) := (blk_cell BK590.out 2).trans rfl; have hcz35_3 : w34.cell? ⟨gb590, 3, none⟩ = some (.slice A0_3 l0_3.length c0_3) := (blk_cell BK590.out 3).trans rfl; have hcz35_4 : w34.cell? ⟨gb590, 4, none⟩ = some (.slice A0_4 l0_4.length c0_4) := (blk_cell BK590.out 4).trans rfl; have hfz35_0 := blk_frozen BK590.out 0; have hfz35_1 := blk_frozen BK590.out 1; have hfz35_2 := blk_frozen BK590.out 2; have hfz35_3 := blk_frozen BK590.out 3; have hfz35_4 := blk_frozen BK590.out 4; have hcz36_0 : w34.cell? ⟨gb599, 0, none⟩ = some (.string ((rd_T48 l1 x46_3).f0)) := (blk_cell BK599.out 0).trans rfl; have hcz36_1 : w34.cell? ⟨gb599, 1, none⟩ = some (.int .i64 ((rd_T48 l1 x46_3).f1)) := (blk_cell BK599.out 1).trans rfl; have hcz36_2 : w34.cell? ⟨gb599, 2, none⟩ = some (.bool ((rd_T48 l1 x46_3).f2)) := (blk_cell BK599.out 2).trans rfl; have hcz36_3 : w34.cell? ⟨gb599, 3, none⟩ = some (.int .i64 ((rd_T48 l1 x46_3).f3)) := (blk_cell BK599.out 3).trans rfl; have hcz36_4 : w34.cell? ⟨gb599, 4, none⟩ = some (.bool ((rd_T48 l1 x46_3).f4)) := (blk_cell BK599.out 4).trans rfl; have hfz36_0 := blk_frozen BK599.out 0; have hfz36_1 := blk_frozen BK599.out 1; have hfz36_2 := blk_frozen BK599.out 2; have hfz36_3 := blk_frozen BK599.out 3; have hfz36_4 := blk_frozen BK599.out 4) | ((with_reducible refine gate_callee (f := 33) rfl ?_); refine goesL_ (some 61) rfl rfl Try.func33 (by kernel_rfl) rfl #[.agg #[.int .i64 a0_0, .int .i64 a0_1, .string a0_2, .slice A0_3 l0_3.length c0_3, .slice A0_4 l0_4.length c0_4], .string ((rd_T48 l1 x46_3).f0)] rfl (by (try simp only [List.map_toArray, List.map_cons, List.map_nil]); first | done | rfl | (simp only [List.length_drop, List.length_take]; rfl)) ?_; (with_reducible refine (sealringref29_Text.calls k3 a0_0 a0_1 a0_2 _ _ l0_3 _ _ l0_4 ((rd_T48 l1 x46_3).f0) t602 t603 _ ?side1 ?side2 ?side3 ?side4 A27.out).mono ?_); (case side1 => repeat (first | exact (Kd.C_below HR0_3.out HB.out) | (with_reducible refine Kd.C_alloc ?_ _) | (with_reducible refine Kd.C_drewN ?_ _) | (with_reducible refine Kd.C_drew ?_))); (case side2 => exact HC0_3.out); (case side3 => repeat (first | exact (Kd.C_below HR0_4.out HB.out) | (with_reducible refine Kd.C_alloc ?_ _) | (with_reducible refine Kd.C_drewN ?_ _) | (with_reducible refine Kd.C_drew ?_))); (case side4 => exact HC0_4.out); rintro e w37 ⟨rfl, hb⟩; refine ⟨_, rfl, ?_⟩; have n0_ := Aside0.mk (blk_below (g := gb590) (o := .cells #[.int .i64 a0_0, .int .i64 a0_1, .string a0_2, .slice A0_3 l0_3.length c0_3, .slice A0_4 l0_4.length c0_4] 25 (0, 0)) (by (with_reducible repeat (first | refine blk_drewN ?_ _ | refine blk_drew ?_ | refine blk_alloc ?_ _)); exact BK590.out) hb); have n1_ := Aside0.mk (blk_below (g := gb599) (o := .cells #[.string ((rd_T48 l1 x46_3).f0), .int .i64 ((rd_T48 l1 x46_3).f1), .bool ((rd_T48 l1 x46_3).f2), .int .i64 ((rd_T48 l1 x46_3).f3), .bool ((rd_T48 l1 x46_3).f4)] 48 (0, 0)) (by (with_reducible repeat (first | refine blk_drewN ?_ _ | refine blk_drew ?_ | refine blk_alloc ?_ _)); exact BK599.out) hb); have n2_ := Aside0.mk (below_step (by repeat (first | (with_reducible first | exact HB.out | apply below_alloc | apply pw_below_drewN | apply below_drew1 | refine below_set ?_ GE590.out | refine below_set ?_ GE599.out) | exact HB.out)) hb); clear BK590; clear BK599; clear HB; have BK590 := n0_; have BK599 := n1_; have HB := n2_; clear n0_ n1_ n2_; (try clear hb); (try clear hb2); (try clear hk); (try clear hi)))
                            go_ret
                            exact ⟨by first | rfl | (simp [errW_none, errW_some] <;> rfl) | (simp [*, errW_none, errW_some] <;> rfl), by repeat (first | (with_reducible first | exact HB.out | apply below_alloc | apply pw_below_drewN | apply below_drew1 | refine below_set ?_ GE590.out | refine below_set ?_ GE599.out) | exact HB.out)⟩
                          · rw [if_neg c29] at H
                            have c29b0 : (t601 != t603) = false := by simpa using c29
                            (try (have c29b1 : decide (t601 = t603) = true := by simpa using c29))
                            (try (have c29b2 : (t601 == t603) = true := by simpa using c29))
                            clear c29
                            have H' := Aside0.mk H
                            clear H
                            have p598 : 0 ≤ (x46_3 : Int) := of_decide_eq_true (by first | (with_reducible assumption) | assumption)
                            have q598 : x46_3 < (l1.length : Int) := of_decide_eq_true (by first | (with_reducible assumption) | assumption)
                            obtain ⟨ad598, e598, hx598_0, hx598_1, hx598_2, hx598_3, hx598_4⟩ := at_T48 HR1.out x46_3 p598 q598
                            cases e598
                            (try replace hx598_0 := (HB.out.cell (World.block_lt_of_cell? w _ hx598_0)).trans hx598_0)
                            (try replace hx598_1 := (HB.out.cell (World.block_lt_of_cell? w _ hx598_1)).trans hx598_1)
                            (try replace hx598_2 := (HB.out.cell (World.block_lt_of_cell? w _ hx598_2)).trans hx598_2)
                            (try replace hx598_3 := (HB.out.cell (World.block_lt_of_cell? w _ hx598_3)).trans hx598_3)
                            (try replace hx598_4 := (HB.out.cell (World.block_lt_of_cell? w _ hx598_4)).trans hx598_4)
                            replace p598 := eq_true p598
                            replace q598 := eq_true q598
                            go_wp2_with (first | ((with_reducible refine gate_dst (N := 10) rfl ?_); (try (refine gate_guard (by rfl) ?_; dsimp only)); refine box_event ?hg (N := 10) ?hd (cs := #[.string (⟨#[]⟩ : ByteArray), .int .i64 0, .bool false, .int .i64 0, .bool false]) (t := 48) ?hr ?_; (case hd => rfl); (case hg => rfl); (case hr => first | (go_simp; done) | (go_simp; rfl)); intro gb599 hg w38 hbox hb; have n0_ := Aside0.mk (blk_below (g := gb590) (o := .cells #[.int .i64 a0_0, .int .i64 a0_1, .string a0_2, .slice A0_3 l0_3.length c0_3, .slice A0_4 l0_4.length c0_4] 25 (0, 0)) (by (with_reducible repeat (first | refine blk_drewN ?_ _ | refine blk_drew ?_ | refine blk_alloc ?_ _)); exact BK590.out) hb); have n1_ := Aside0.mk (below_step (by repeat (first | (with_reducible first | exact HB.out | apply below_alloc | apply pw_below_drewN | apply below_drew1 | refine below_set ?_ GE590.out) | exact HB.out)) hb); have n2_ := Aside0.mk (hbox); have n3_ := Aside0.mk ((by rw [hg]; exact (below_size (by repeat (first | (with_reducible first | exact HB.out | apply below_alloc | apply pw_below_drewN | apply below_drew1 | refine below_set ?_ GE590.out) | exact HB.out))) : w.heap.size ≤ gb599)); have n4_ := Aside0.mk ((by rw [hg]; exact (below_size (by repeat (first | (with_reducible first | exact HB.out | apply below_alloc | apply pw_below_drewN | apply below_drew1 | refine below_set ?_ GE590.out) | exact HB.out))) : w.heap.size ≤ gb599)); have n5_ := Aside0.mk ((by rw [hg]; exact Nat.ne_of_lt (blk_lt (g := gb590) (o := .cells #[.int .i64 a0_0, .int .i64 a0_1, .string a0_2, .slice A0_3 l0_3.length c0_3, .slice A0_4 l0_4.length c0_4] 25 (0, 0)) (by (with_reducible repeat (first | refine blk_drewN ?_ _ | refine blk_drew ?_ | refine blk_alloc ?_ _)); exact BK590.out)) : gb590 ≠ gb599)); have n6_ := Aside0.mk ((by rw [hg]; exact Nat.ne_of_gt (blk_lt (g := gb590) (o := .cells #[.int .i64 a0_0, .int .i64 a0_1, .string a0_2, .slice A0_3 l0_3.length c0_3, .slice A0_4 l0_4.length c0_4] 25 (0, 0)) (by (with_reducible repeat (first | refine blk_drewN ?_ _ | refine blk_drew ?_ | refine blk_alloc ?_ _)); exact BK590.out)) : gb599 ≠ gb590)); clear BK590; clear HB; have BK590 := n0_; have HB := n1_; have BK599 := n2_; have GW599 := n3_; have GE599 := n4_; have NB590_599 := n5_; have NB599_590 := n6_; clear n0_ n1_ n2_ n3_ n4_ n5_ n6_; clear hb hbox hg; have hnb39 := NB599_590.out; have hnc39 := NB590_599.out; have hcz40_0 : w38.cell? ⟨gb599, 0, none⟩ = some (.string (⟨#[]⟩ : ByteArray)) := (blk_cell BK599.out 0).trans rfl; have hcz40_1 : w38.cell? ⟨gb599, 1, none⟩ = some (.int .i64 0) := (blk_cell BK599.out 1).trans rfl; have hcz40_2 : w38.cell? ⟨gb599, 2, none⟩ = some (.bool false) := (blk_cell BK599.out 2).trans rfl; have hcz40_3 : w38.cell? ⟨gb599, 3, none⟩ = some (.int .i64 0) := (blk_cell BK599.out 3).trans rfl; have hcz40_4 : w38.cell? ⟨gb599, 4, none⟩ = some (.bool false) := (blk_cell BK599.out 4).trans rfl; have hfz40_0 := blk_frozen BK599.out 0; have hfz40_1 := blk_frozen BK599.out 1; have hfz40_2 := blk_frozen BK599.out 2; have hfz40_3 := blk_frozen BK599.out 3; have hfz40_4 := blk_frozen BK599.out 4; have hcz41_0 : w38.cell? ⟨gb590, 0, none⟩ = some (.int .i64 a0_0) := (blk_cell BK590.out 0).trans rfl; have hcz41_1 : w38.cell? ⟨gb590, 1, none⟩ = some (.int .i64 a0_1) := (blk_cell BK590.out 1).trans rfl; have hcz41_2 : w38.cell? ⟨gb590, 2, none⟩ = some (.string a0_2) := (blk_cell BK590.out 2).trans rfl; have hcz41_3 : w38.cell? ⟨gb590, 3, none⟩ = some (.slice A0_3 l0_3.length c0_3) := (blk_cell BK590.out 3).trans rfl; have hcz41_4 : w38.cell? ⟨gb590, 4, none⟩ = some (.slice A0_4 l0_4.length c0_4) := (blk_cell BK590.out 4).trans rfl; have hfz41_0 := blk_frozen BK590.out 0; have hfz41_1 := blk_frozen BK590.out 1; have hfz41_2 := blk_frozen BK590.out 2; have hfz41_3 := blk_frozen BK590.out 3; have hfz41_4 := blk_frozen BK590.out 4) | ((with_reducible refine gate_callee (f := 32) rfl ?_); refine goesL_ (some 54) rfl rfl Try.func32 (by kernel_rfl) rfl #[.agg #[.int .i64 a0_0, .int .i64 a0_1, .string a0_2, .slice A0_3 l0_3.length c0_3, .slice A0_4 l0_4.length c0_4], .string ((rd_T48 l1 x46_3).f0)] rfl (by (try simp only [List.map_toArray, List.map_cons, List.map_nil]); first | done | rfl | (simp only [List.length_drop, List.length_take]; rfl)) ?_; (with_reducible refine (field_Text.calls k3 a0_0 a0_1 a0_2 _ _ l0_3 _ _ l0_4 ((rd_T48 l1 x46_3).f0) t600 t601 _ ?side1 ?side2 ?side3 ?side4 A26.out).mono ?_); (case side1 => exact Kd.C_below HR0_3.out (by repeat (first | (with_reducible first | exact HB.out | apply below_alloc | apply pw_below_drewN | apply below_drew1 | refine below_set ?_ GE590.out | refine below_set ?_ GE599.out) | exact HB.out))); (case side2 => exact HC0_3.out); (case side3 => exact Kd.C_below HR0_4.out (by repeat (first | (with_reducible first | exact HB.out | apply below_alloc | apply pw_below_drewN | apply below_drew1 | refine below_set ?_ GE590.out | refine below_set ?_ GE599.out) | exact HB.out))); (case side4 => exact HC0_4.out); rintro e w42 ⟨rfl, hb⟩; refine ⟨_, rfl, ?_⟩; have n0_ := Aside0.mk (blk_below (g := gb590) (o := .cells #[.int .i64 a0_0, .int .i64 a0_1, .string a0_2, .slice A0_3 l0_3.length c0_3, .slice A0_4 l0_4.length c0_4] 25 (0, 0)) (by (with_reducible repeat (first | refine blk_drewN ?_ _ | refine blk_drew ?_ | refine blk_alloc ?_ _)); refine blk_far ?_ NB590_599.out _; (with_reducible repeat (first | refine blk_drewN ?_ _ | refine blk_drew ?_ | refine blk_alloc ?_ _)); refine blk_far ?_ NB590_599.out _; (with_reducible repeat (first | refine blk_drewN ?_ _ | refine blk_drew ?_ | refine blk_alloc ?_ _)); refine blk_far ?_ NB590_599.out _; (with_reducible repeat (first | refine blk_drewN ?_ _ | refine blk_drew ?_ | refine blk_alloc ?_ _)); refine blk_far ?_ NB590_599.out _; (with_reducible repeat (first | refine blk_drewN ?_ _ | refine blk_drew ?_ | refine blk_alloc ?_ _)); refine blk_far ?_ NB590_599.out _; (with_reducible repeat (first | refine blk_drewN ?_ _ | refine blk_drew ?_ | refine blk_alloc ?_ _)); exact BK590.out) hb); have n1_ := Aside0.mk (blk_below (g := gb599) (o := .cells #[.string ((rd_T48 l1 x46_3).f0), .int .i64 ((rd_T48 l1 x46_3).f1), .bool ((rd_T48 l1 x46_3).f2), .int .i64 ((rd_T48 l1 x46_3).f3), .bool ((rd_T48 l1 x46_3).f4)] 48 (0, 0)) (by (with_reducible repeat (first | refine blk_drewN ?_ _ | refine blk_drew ?_ | refine blk_alloc ?_ _)); refine blk_put (cs := #[.string ((rd_T48 l1 x46_3).f0), .int .i64 ((rd_T48 l1 x46_3).f1), .bool ((rd_T48 l1 x46_3).f2), .int .i64 ((rd_T48 l1 x46_3).f3), .bool false]) ?_ 4 _ rfl; (with_reducible repeat (first | refine blk_drewN ?_ _ | refine blk_drew ?_ | refine blk_alloc ?_ _)); refine blk_put (cs := #[.string ((rd_T48 l1 x46_3).f0), .int .i64 ((rd_T48 l1 x46_3).f1), .bool ((rd_T48 l1 x46_3).f2), .int .i64 0, .bool false]) ?_ 3 _ rfl; (with_reducible repeat (first | refine blk_drewN ?_ _ | refine blk_drew ?_ | refine blk_alloc ?_ _)); refine blk_put (cs := #[.string ((rd_T48 l1 x46_3).f0), .int .i64 ((rd_T48 l1 x46_3).f1), .bool false, .int .i64 0, .bool false]) ?_ 2 _ rfl; (with_reducible repeat (first | refine blk_drewN ?_ _ | refine blk_drew ?_ | refine blk_alloc ?_ _)); refine blk_put (cs := #[.string ((rd_T48 l1 x46_3).f0), .int .i64 0, .bool false, .int .i64 0, .bool false]) ?_ 1 _ rfl; (with_reducible repeat (first | refine blk_drewN ?_ _ | refine blk_drew ?_ | refine blk_alloc ?_ _)); refine blk_put (cs := #[.string (⟨#[]⟩ : ByteArray), .int .i64 0, .bool false, .int .i64 0, .bool false]) ?_ 0 _ rfl; (with_reducible repeat (first | refine blk_drewN ?_ _ | refine blk_drew ?_ | refine blk_alloc ?_ _)); exact BK599.out) hb); have n2_ := Aside0.mk (below_step (by repeat (first | (with_reducible first | exact HB.out | apply below_alloc | apply pw_below_drewN | apply below_drew1 | refine below_set ?_ GE590.out | refine below_set ?_ GE599.out) | exact HB.out)) hb); clear BK590; clear BK599; clear HB; have BK590 := n0_; have BK599 := n1_; have HB := n2_; clear n0_ n1_ n2_; (try clear hb); (try clear hb2); (try clear hk); (try clear hi); have hcz43_0 : w42.cell? ⟨gb590, 0, none⟩ = some (.int .i64 a0_0) := (blk_cell BK590.out 0).trans rfl; have hcz43_1 : w42.cell? ⟨gb590, 1, none⟩ = some (.int .i64 a0_1) := (blk_cell BK590.out 1).trans rfl; have hcz43_2 : w42.cell? ⟨gb590, 2, none⟩ = some (.string a0_2) := (blk_cell BK590.out 2).trans rfl; have hcz43_3 : w42.cell? ⟨gb590, 3, none⟩ = some (.slice A0_3 l0_3.length c0_3) := (blk_cell BK590.out 3).trans rfl; have hcz43_4 : w42.cell? ⟨gb590, 4, none⟩ = some (.slice A0_4 l0_4.length c0_4) := (blk_cell BK590.out 4).trans rfl; have hfz43_0 := blk_frozen BK590.out 0; have hfz43_1 := blk_frozen BK590.out 1; have hfz43_2 := blk_frozen BK590.out 2; have hfz43_3 := blk_frozen BK590.out 3; have hfz43_4 := blk_frozen BK590.out 4; have hcz44_0 : w42.cell? ⟨gb599, 0, none⟩ = some (.string ((rd_T48 l1 x46_3).f0)) := (blk_cell BK599.out 0).trans rfl; have hcz44_1 : w42.cell? ⟨gb599, 1, none⟩ = some (.int .i64 ((rd_T48 l1 x46_3).f1)) := (blk_cell BK599.out 1).trans rfl; have hcz44_2 : w42.cell? ⟨gb599, 2, none⟩ = some (.bool ((rd_T48 l1 x46_3).f2)) := (blk_cell BK599.out 2).trans rfl; have hcz44_3 : w42.cell? ⟨gb599, 3, none⟩ = some (.int .i64 ((rd_T48 l1 x46_3).f3)) := (blk_cell BK599.out 3).trans rfl; have hcz44_4 : w42.cell? ⟨gb599, 4, none⟩ = some (.bool ((rd_T48 l1 x46_3).f4)) := (blk_cell BK599.out 4).trans rfl; have hfz44_0 := blk_frozen BK599.out 0; have hfz44_1 := blk_frozen BK599.out 1; have hfz44_2 := blk_frozen BK599.out 2; have hfz44_3 := blk_frozen BK599.out 3; have hfz44_4 := blk_frozen BK599.out 4) | ((with_reducible refine gate_callee (f := 33) rfl ?_); refine goesL_ (some 61) rfl rfl Try.func33 (by kernel_rfl) rfl #[.agg #[.int .i64 a0_0, .int .i64 a0_1, .string a0_2, .slice A0_3 l0_3.length c0_3, .slice A0_4 l0_4.length c0_4], .string ((rd_T48 l1 x46_3).f0)] rfl (by (try simp only [List.map_toArray, List.map_cons, List.map_nil]); first | done | rfl | (simp only [List.length_drop, List.length_take]; rfl)) ?_; (with_reducible refine (sealringref29_Text.calls k3 a0_0 a0_1 a0_2 _ _ l0_3 _ _ l0_4 ((rd_T48 l1 x46_3).f0) t602 t603 _ ?side1 ?side2 ?side3 ?side4 A27.out).mono ?_); (case side1 => repeat (first | exact (Kd.C_below HR0_3.out HB.out) | (with_reducible refine Kd.C_alloc ?_ _) | (with_reducible refine Kd.C_drewN ?_ _) | (with_reducible refine Kd.C_drew ?_))); (case side2 => exact HC0_3.out); (case side3 => repeat (first | exact (Kd.C_below HR0_4.out HB.out) | (with_reducible refine Kd.C_alloc ?_ _) | (with_reducible refine Kd.C_drewN ?_ _) | (with_reducible refine Kd.C_drew ?_))); (case side4 => exact HC0_4.out); rintro e w45 ⟨rfl, hb⟩; refine ⟨_, rfl, ?_⟩; have n0_ := Aside0.mk (blk_below (g := gb590) (o := .cells #[.int .i64 a0_0, .int .i64 a0_1, .string a0_2, .slice A0_3 l0_3.length c0_3, .slice A0_4 l0_4.length c0_4] 25 (0, 0)) (by (with_reducible repeat (first | refine blk_drewN ?_ _ | refine blk_drew ?_ | refine blk_alloc ?_ _)); exact BK590.out) hb); have n1_ := Aside0.mk (blk_below (g := gb599) (o := .cells #[.string ((rd_T48 l1 x46_3).f0), .int .i64 ((rd_T48 l1 x46_3).f1), .bool ((rd_T48 l1 x46_3).f2), .int .i64 ((rd_T48 l1 x46_3).f3), .bool ((rd_T48 l1 x46_3).f4)] 48 (0, 0)) (by (with_reducible repeat (first | refine blk_drewN ?_ _ | refine blk_drew ?_ | refine blk_alloc ?_ _)); exact BK599.out) hb); have n2_ := Aside0.mk (below_step (by repeat (first | (with_reducible first | exact HB.out | apply below_alloc | apply pw_below_drewN | apply below_drew1 | refine below_set ?_ GE590.out | refine below_set ?_ GE599.out) | exact HB.out)) hb); clear BK590; clear BK599; clear HB; have BK590 := n0_; have BK599 := n1_; have HB := n2_; clear n0_ n1_ n2_; (try clear hb); (try clear hb2); (try clear hk); (try clear hi)))
                            go_roundg k3
                            case measure => have := HJ2.out; have := HJ15.out; have := HK3.out; omega
                            case rel => exact ⟨(wrap64 (x46_3 + 1)), (by first | rfl | (simp; done) | (simp [*]; done)), (by first | with_reducible exact H' | exact H' | (subst_vars; exact H')), ⟨by have := HJ2.out; have := HJ15.out; have := HK3.out; omega⟩, ⟨by (with_reducible repeat (first | refine blk_drewN ?_ _ | refine blk_drew ?_ | refine blk_alloc ?_ _)); exact BK590.out⟩, ⟨by repeat (first | (with_reducible first | exact HB.out | apply below_alloc | apply pw_below_drewN | apply below_drew1 | refine below_set ?_ GE590.out | refine below_set ?_ GE599.out) | exact HB.out)⟩⟩
                        · rw [if_neg c28] at H
                          have c28b0 : (t600.toList == t602.toList) = false := beq_eq_false_iff_ne.mpr c28
                          have c28b1 : (t600.toList != t602.toList) = true := bne_iff_ne.mpr c28
                          obtain rfl := Option.some.inj H
                          have p598 : 0 ≤ (x46_3 : Int) := of_decide_eq_true (by first | (with_reducible assumption) | assumption)
                          have q598 : x46_3 < (l1.length : Int) := of_decide_eq_true (by first | (with_reducible assumption) | assumption)
                          obtain ⟨ad598, e598, hx598_0, hx598_1, hx598_2, hx598_3, hx598_4⟩ := at_T48 HR1.out x46_3 p598 q598
                          cases e598
                          (try replace hx598_0 := (HB.out.cell (World.block_lt_of_cell? w _ hx598_0)).trans hx598_0)
                          (try replace hx598_1 := (HB.out.cell (World.block_lt_of_cell? w _ hx598_1)).trans hx598_1)
                          (try replace hx598_2 := (HB.out.cell (World.block_lt_of_cell? w _ hx598_2)).trans hx598_2)
                          (try replace hx598_3 := (HB.out.cell (World.block_lt_of_cell? w _ hx598_3)).trans hx598_3)
                          (try replace hx598_4 := (HB.out.cell (World.block_lt_of_cell? w _ hx598_4)).trans hx598_4)
                          replace p598 := eq_true p598
                          replace q598 := eq_true q598
                          go_wp2_with (first | ((with_reducible refine gate_dst (N := 10) rfl ?_); (try (refine gate_guard (by rfl) ?_; dsimp only)); refine box_event ?hg (N := 10) ?hd (cs := #[.string (⟨#[]⟩ : ByteArray), .int .i64 0, .bool false, .int .i64 0, .bool false]) (t := 48) ?hr ?_; (case hd => rfl); (case hg => rfl); (case hr => first | (go_simp; done) | (go_simp; rfl)); intro gb599 hg w46 hbox hb; have n0_ := Aside0.mk (blk_below (g := gb590) (o := .cells #[.int .i64 a0_0, .int .i64 a0_1, .string a0_2, .slice A0_3 l0_3.length c0_3, .slice A0_4 l0_4.length c0_4] 25 (0, 0)) (by (with_reducible repeat (first | refine blk_drewN ?_ _ | refine blk_drew ?_ | refine blk_alloc ?_ _)); exact BK590.out) hb); have n1_ := Aside0.mk (below_step (by repeat (first | (with_reducible first | exact HB.out | apply below_alloc | apply pw_below_drewN | apply below_drew1 | refine below_set ?_ GE590.out) | exact HB.out)) hb); have n2_ := Aside0.mk (hbox); have n3_ := Aside0.mk ((by rw [hg]; exact (below_size (by repeat (first | (with_reducible first | exact HB.out | apply below_alloc | apply pw_below_drewN | apply below_drew1 | refine below_set ?_ GE590.out) | exact HB.out))) : w.heap.size ≤ gb599)); have n4_ := Aside0.mk ((by rw [hg]; exact (below_size (by repeat (first | (with_reducible first | exact HB.out | apply below_alloc | apply pw_below_drewN | apply below_drew1 | refine below_set ?_ GE590.out) | exact HB.out))) : w.heap.size ≤ gb599)); have n5_ := Aside0.mk ((by rw [hg]; exact Nat.ne_of_lt (blk_lt (g := gb590) (o := .cells #[.int .i64 a0_0, .int .i64 a0_1, .string a0_2, .slice A0_3 l0_3.length c0_3, .slice A0_4 l0_4.length c0_4] 25 (0, 0)) (by (with_reducible repeat (first | refine blk_drewN ?_ _ | refine blk_drew ?_ | refine blk_alloc ?_ _)); exact BK590.out)) : gb590 ≠ gb599)); have n6_ := Aside0.mk ((by rw [hg]; exact Nat.ne_of_gt (blk_lt (g := gb590) (o := .cells #[.int .i64 a0_0, .int .i64 a0_1, .string a0_2, .slice A0_3 l0_3.length c0_3, .slice A0_4 l0_4.length c0_4] 25 (0, 0)) (by (with_reducible repeat (first | refine blk_drewN ?_ _ | refine blk_drew ?_ | refine blk_alloc ?_ _)); exact BK590.out)) : gb599 ≠ gb590)); clear BK590; clear HB; have BK590 := n0_; have HB := n1_; have BK599 := n2_; have GW599 := n3_; have GE599 := n4_; have NB590_599 := n5_; have NB599_590 := n6_; clear n0_ n1_ n2_ n3_ n4_ n5_ n6_; clear hb hbox hg; have hnb47 := NB599_590.out; have hnc47 := NB590_599.out; have hcz48_0 : w46.cell? ⟨gb599, 0, none⟩ = some (.string (⟨#[]⟩ : ByteArray)) := (blk_cell BK599.out 0).trans rfl; have hcz48_1 : w46.cell? ⟨gb599, 1, none⟩ = some (.int .i64 0) := (blk_cell BK599.out 1).trans rfl; have hcz48_2 : w46.cell? ⟨gb599, 2, none⟩ = some (.bool false) := (blk_cell BK599.out 2).trans rfl; have hcz48_3 : w46.cell? ⟨gb599, 3, none⟩ = some (.int .i64 0) := (blk_cell BK599.out 3).trans rfl; have hcz48_4 : w46.cell? ⟨gb599, 4, none⟩ = some (.bool false) := (blk_cell BK599.out 4).trans rfl; have hfz48_0 := blk_frozen BK599.out 0; have hfz48_1 := blk_frozen BK599.out 1; have hfz48_2 := blk_frozen BK599.out 2; have hfz48_3 := blk_frozen BK599.out 3; have hfz48_4 := blk_frozen BK599.out 4; have hcz49_0 : w46.cell? ⟨gb590, 0, none⟩ = some (.int .i64 a0_0) := (blk_cell BK590.out 0).trans rfl; have hcz49_1 : w46.cell? ⟨gb590, 1, none⟩ = some (.int .i64 a0_1) := (blk_cell BK590.out 1).trans rfl; have hcz49_2 : w46.cell? ⟨gb590, 2, none⟩ = some (.string a0_2) := (blk_cell BK590.out 2).trans rfl; have hcz49_3 : w46.cell? ⟨gb590, 3, none⟩ = some (.slice A0_3 l0_3.length c0_3) := (blk_cell BK590.out 3).trans rfl; have hcz49_4 : w46.cell? ⟨gb590, 4, none⟩ = some (.slice A0_4 l0_4.length c0_4) := (blk_cell BK590.out 4).trans rfl; have hfz49_0 := blk_frozen BK590.out 0; have hfz49_1 := blk_frozen BK590.out 1; have hfz49_2 := blk_frozen BK590.out 2; have hfz49_3 := blk_frozen BK590.out 3; have hfz49_4 := blk_frozen BK590.out 4) | ((with_reducible refine gate_callee (f := 32) rfl ?_); refine goesL_ (some 54) rfl rfl Try.func32 (by kernel_rfl) rfl #[.agg #[.int .i64 a0_0, .int .i64 a0_1, .string a0_2, .slice A0_3 l0_3.length c0_3, .slice A0_4 l0_4.length c0_4], .string ((rd_T48 l1 x46_3).f0)] rfl (by (try simp only [List.map_toArray, List.map_cons, List.map_nil]); first | done | rfl | (simp only [List.length_drop, List.length_take]; rfl)) ?_; (with_reducible refine (field_Text.calls k3 a0_0 a0_1 a0_2 _ _ l0_3 _ _ l0_4 ((rd_T48 l1 x46_3).f0) t600 t601 _ ?side1 ?side2 ?side3 ?side4 A26.out).mono ?_); (case side1 => exact Kd.C_below HR0_3.out (by repeat (first | (with_reducible first | exact HB.out | apply below_alloc | apply pw_below_drewN | apply below_drew1 | refine below_set ?_ GE590.out | refine below_set ?_ GE599.out) | exact HB.out))); (case side2 => exact HC0_3.out); (case side3 => exact Kd.C_below HR0_4.out (by repeat (first | (with_reducible first | exact HB.out | apply below_alloc | apply pw_below_drewN | apply below_drew1 | refine below_set ?_ GE590.out | refine below_set ?_ GE599.out) | exact HB.out))); (case side4 => exact HC0_4.out); rintro e w50 ⟨rfl, hb⟩; refine ⟨_, rfl, ?_⟩; have n0_ := Aside0.mk (blk_below (g := gb590) (o := .cells #[.int .i64 a0_0, .int .i64 a0_1, .string a0_2, .slice A0_3 l0_3.length c0_3, .slice A0_4 l0_4.length c0_4] 25 (0, 0)) (by (with_reducible repeat (first | refine blk_drewN ?_ _ | refine blk_drew ?_ | refine blk_alloc ?_ _)); refine blk_far ?_ NB590_599.out _; (with_reducible repeat (first | refine blk_drewN ?_ _ | refine blk_drew ?_ | refine blk_alloc ?_ _)); refine blk_far ?_ NB590_599.out _; (with_reducible repeat (first | refine blk_drewN ?_ _ | refine blk_drew ?_ | refine blk_alloc ?_ _)); refine blk_far ?_ NB590_599.out _; (with_reducible repeat (first | refine blk_drewN ?_ _ | refine blk_drew ?_ | refine blk_alloc ?_ _)); refine blk_far ?_ NB590_599.out _; (with_reducible repeat (first | refine blk_drewN ?_ _ | refine blk_drew ?_ | refine blk_alloc ?_ _)); refine blk_far ?_ NB590_599.out _; (with_reducible repeat (first | refine blk_drewN ?_ _ | refine blk_drew ?_ | refine blk_alloc ?_ _)); exact BK590.out) hb); have n1_ := Aside0.mk (blk_below (g := gb599) (o := .cells #[.string ((rd_T48 l1 x46_3).f0), .int .i64 ((rd_T48 l1 x46_3).f1), .bool ((rd_T48 l1 x46_3).f2), .int .i64 ((rd_T48 l1 x46_3).f3), .bool ((rd_T48 l1 x46_3).f4)] 48 (0, 0)) (by (with_reducible repeat (first | refine blk_drewN ?_ _ | refine blk_drew ?_ | refine blk_alloc ?_ _)); refine blk_put (cs := #[.string ((rd_T48 l1 x46_3).f0), .int .i64 ((rd_T48 l1 x46_3).f1), .bool ((rd_T48 l1 x46_3).f2), .int .i64 ((rd_T48 l1 x46_3).f3), .bool false]) ?_ 4 _ rfl; (with_reducible repeat (first | refine blk_drewN ?_ _ | refine blk_drew ?_ | refine blk_alloc ?_ _)); refine blk_put (cs := #[.string ((rd_T48 l1 x46_3).f0), .int .i64 ((rd_T48 l1 x46_3).f1), .bool ((rd_T48 l1 x46_3).f2), .int .i64 0, .bool false]) ?_ 3 _ rfl; (with_reducible repeat (first | refine blk_drewN ?_ _ | refine blk_drew ?_ | refine blk_alloc ?_ _)); refine blk_put (cs := #[.string ((rd_T48 l1 x46_3).f0), .int .i64 ((rd_T48 l1 x46_3).f1), .bool false, .int .i64 0, .bool false]) ?_ 2 _ rfl; (with_reducible repeat (first | refine blk_drewN ?_ _ | refine blk_drew ?_ | refine blk_alloc ?_ _)); refine blk_put (cs := #[.string ((rd_T48 l1 x46_3).f0), .int .i64 0, .bool false, .int .i64 0, .bool false]) ?_ 1 _ rfl; (with_reducible repeat (first | refine blk_drewN ?_ _ | refine blk_drew ?_ | refine blk_alloc ?_ _)); refine blk_put (cs := #[.string (⟨#[]⟩ : ByteArray), .int .i64 0, .bool false, .int .i64 0, .bool false]) ?_ 0 _ rfl; (with_reducible repeat (first | refine blk_drewN ?_ _ | refine blk_drew ?_ | refine blk_alloc ?_ _)); exact BK599.out) hb); have n2_ := Aside0.mk (below_step (by repeat (first | (with_reducible first | exact HB.out | apply below_alloc | apply pw_below_drewN | apply below_drew1 | refine below_set ?_ GE590.out | refine below_set ?_ GE599.out) | exact HB.out)) hb); clear BK590; clear BK599; clear HB; have BK590 := n0_; have BK599 := n1_; have HB := n2_; clear n0_ n1_ n2_; (try clear hb); (try clear hb2); (try clear hk); (try clear hi); have hcz51_0 : w50.cell? ⟨gb590, 0, none⟩ = some (.int .i64 a0_0) := (blk_cell BK590.out 0).trans rfl; have hcz51_1 : w50.cell? ⟨gb590, 1, none⟩ = some (.int .i64 a0_1) := (blk_cell BK590.out 1).trans rfl; have hcz51_2 : w50.cell? ⟨gb590, 2, none⟩ = some (.string a0_2) := (blk_cell BK590.out 2).trans rfl; have hcz51_3 : w50.cell? ⟨gb590, 3, none⟩ = some (.slice A0_3 l0_3.length c0_3) := (blk_cell BK590.out 3).trans rfl; have hcz51_4 : w50.cell? ⟨gb590, 4, none⟩ = some (.slice A0_4 l0_4.length c0_4) := (blk_cell BK590.out 4).trans rfl; have hfz51_0 := blk_frozen BK590.out 0; have hfz51_1 := blk_frozen BK590.out 1; have hfz51_2 := blk_frozen BK590.out 2; have hfz51_3 := blk_frozen BK590.out 3; have hfz51_4 := blk_frozen BK590.out 4; have hcz52_0 : w50.cell? ⟨gb599, 0, none⟩ = some (.string ((rd_T48 l1 x46_3).f0)) := (blk_cell BK599.out 0).trans rfl; have hcz52_1 : w50.cell? ⟨gb599, 1, none⟩ = some (.int .i64 ((rd_T48 l1 x46_3).f1)) := (blk_cell BK599.out 1).trans rfl; have hcz52_2 : w50.cell? ⟨gb599, 2, none⟩ = some (.bool ((rd_T48 l1 x46_3).f2)) := (blk_cell BK599.out 2).trans rfl; have hcz52_3 : w50.cell? ⟨gb599, 3, none⟩ = some (.int .i64 ((rd_T48 l1 x46_3).f3)) := (blk_cell BK599.out 3).trans rfl; have hcz52_4 : w50.cell? ⟨gb599, 4, none⟩ = some (.bool ((rd_T48 l1 x46_3).f4)) := (blk_cell BK599.out 4).trans rfl; have hfz52_0 := blk_frozen BK599.out 0; have hfz52_1 := blk_frozen BK599.out 1; have hfz52_2 := blk_frozen BK599.out 2; have hfz52_3 := blk_frozen BK599.out 3; have hfz52_4 := blk_frozen BK599.out 4) | ((with_reducible refine gate_callee (f := 33) rfl ?_); refine goesL_ (some 61) rfl rfl Try.func33 (by kernel_rfl) rfl #[.agg #[.int .i64 a0_0, .int .i64 a0_1, .string a0_2, .slice A0_3 l0_3.length c0_3, .slice A0_4 l0_4.length c0_4], .string ((rd_T48 l1 x46_3).f0)] rfl (by (try simp only [List.map_toArray, List.map_cons, List.map_nil]); first | done | rfl | (simp only [List.length_drop, List.length_take]; rfl)) ?_; (with_reducible refine (sealringref29_Text.calls k3 a0_0 a0_1 a0_2 _ _ l0_3 _ _ l0_4 ((rd_T48 l1 x46_3).f0) t602 t603 _ ?side1 ?side2 ?side3 ?side4 A27.out).mono ?_); (case side1 => repeat (first | exact (Kd.C_below HR0_3.out HB.out) | (with_reducible refine Kd.C_alloc ?_ _) | (with_reducible refine Kd.C_drewN ?_ _) | (with_reducible refine Kd.C_drew ?_))); (case side2 => exact HC0_3.out); (case side3 => repeat (first | exact (Kd.C_below HR0_4.out HB.out) | (with_reducible refine Kd.C_alloc ?_ _) | (with_reducible refine Kd.C_drewN ?_ _) | (with_reducible refine Kd.C_drew ?_))); (case side4 => exact HC0_4.out); rintro e w53 ⟨rfl, hb⟩; refine ⟨_, rfl, ?_⟩; have n0_ := Aside0.mk (blk_below (g := gb590) (o := .cells #[.int .i64 a0_0, .int .i64 a0_1, .string a0_2, .slice A0_3 l0_3.length c0_3, .slice A0_4 l0_4.length c0_4] 25 (0, 0)) (by (with_reducible repeat (first | refine blk_drewN ?_ _ | refine blk_drew ?_ | refine blk_alloc ?_ _)); exact BK590.out) hb); have n1_ := Aside0.mk (blk_below (g := gb599) (o := .cells #[.string ((rd_T48 l1 x46_3).f0), .int .i64 ((rd_T48 l1 x46_3).f1), .bool ((rd_T48 l1 x46_3).f2), .int .i64 ((rd_T48 l1 x46_3).f3), .bool ((rd_T48 l1 x46_3).f4)] 48 (0, 0)) (by (with_reducible repeat (first | refine blk_drewN ?_ _ | refine blk_drew ?_ | refine blk_alloc ?_ _)); exact BK599.out) hb); have n2_ := Aside0.mk (below_step (by repeat (first | (with_reducible first | exact HB.out | apply below_alloc | apply pw_below_drewN | apply below_drew1 | refine below_set ?_ GE590.out | refine below_set ?_ GE599.out) | exact HB.out)) hb); clear BK590; clear BK599; clear HB; have BK590 := n0_; have BK599 := n1_; have HB := n2_; clear n0_ n1_ n2_; (try clear hb); (try clear hb2); (try clear hk); (try clear hi)))
                          go_ret
                          exact ⟨by first | rfl | (simp [errW_none, errW_some] <;> rfl) | (simp [*, errW_none, errW_some] <;> rfl), by repeat (first | (with_reducible first | exact HB.out | apply below_alloc | apply pw_below_drewN | apply below_drew1 | refine below_set ?_ GE590.out | refine below_set ?_ GE599.out) | exact HB.out)⟩
                      · rw [if_neg c25] at H
                        exact absurd H (by simp)
                    · rw [if_neg c24] at H
                      exact absurd H (by simp)
                  · rw [if_neg c23] at H
                    have c23b0 : decide (x46_3 < (l1.length : Int)) = false := decide_eq_false c23
                    clear c23
                    replace H := Option.bind_eq_some_iff.mp H
                    obtain ⟨t597, A540, H⟩ := H
                    replace H : (some t597) = some r := H
                    have A54 := Aside0.mk A540
                    clear A540
                    obtain rfl := Option.some.inj H
                    go_wp2_with (first | ((with_reducible refine gate_callee (f := 25) rfl ?_); refine goesL_ (some 73) rfl rfl Try.func25 (by kernel_rfl) rfl #[] rfl (by (try simp only [List.map_toArray, List.map_cons, List.map_nil]); first | done | rfl | (simp only [List.length_drop, List.length_take]; rfl)) ?_; (with_reducible refine (sealringlaw29_lives.calls k3  t597 _ A54.out).mono ?_); rintro e w55 ⟨rfl, hb⟩; refine ⟨_, rfl, ?_⟩; have n0_ := Aside0.mk (blk_below (g := gb590) (o := .cells #[.int .i64 a0_0, .int .i64 a0_1, .string a0_2, .slice A0_3 l0_3.length c0_3, .slice A0_4 l0_4.length c0_4] 25 (0, 0)) (by (with_reducible repeat (first | refine blk_drewN ?_ _ | refine blk_drew ?_ | refine blk_alloc ?_ _)); exact BK590.out) hb); have n1_ := Aside0.mk (below_step (by repeat (first | (with_reducible first | exact HB.out | apply below_alloc | apply pw_below_drewN | apply below_drew1 | refine below_set ?_ GE590.out) | exact HB.out)) hb); clear BK590; clear HB; have BK590 := n0_; have HB := n1_; clear n0_ n1_; (try clear hb); (try clear hb2); (try clear hk); (try clear hi)))
                    go_ret
                    exact ⟨by first | rfl | (simp [errW_none, errW_some] <;> rfl) | (simp [*, errW_none, errW_some] <;> rfl), by repeat (first | (with_reducible first | exact HB.out | apply below_alloc | apply pw_below_drewN | apply below_drew1 | refine below_set ?_ GE590.out) | exact HB.out)⟩
end Go.Proofs.Ytbnmcnghmnhigaa.X
end
section
namespace Go.Proofs.Ytbnmcnghmnhigaa.X
open Go.RowKit Go.Proofs.YtbnmcnghmnhigaaW.PrintWords Go.Proofs.YtbnmcnghmnhigaaW.PrintLast
set_option linter.unusedVariables false
set_option linter.unusedSimpArgs false
theorem lives29 : Ev (fun k => sealringlaw29_lives.f k) true := Ev.of sealringlaw29_lives.mono (k := 12) (by kernel_rfl)
theorem rdr (L : List S48) (i : Nat) (h : i < L.length) : rd_T48 L (i : Int) = L[i] := by
  unfold rd_T48
  rw [show ((i : Int)).toNat = i from rfl, List.getD_eq_getElem?_getD, List.getElem?_eq_getElem h]
  rfl
section
variable (a0 a1 : Int) (a2 : ByteArray) (K : List ByteArray) (L : List S25)
end
def mkR (kind : Int) (must : Bool) (s : ByteArray) : S48 := ⟨s, kind, must, 0, false⟩
theorem rules_go (kind : Int) (must : Bool) (l : List ByteArray) (hl : l.length ≤ 1000) : ∀ (n i : Nat), i + n = l.length → Ev (fun k => field_rules.l0 k kind must ((l.take i).map (mkR kind must)) l (l.length : Int) (i : Int)) (l.map (mkR kind must)) := by
  intro n
  induction n with
  | zero =>
    intro i hi
    refine Ev.step (fun k => by rw [field_rules.l0]) (evNeg (by omega) ?_)
    rw [List.take_of_length_le (by omega)]
    exact Ev.now _
  | succ n ih =>
    intro i hi
    have h : i < l.length := by omega
    refine Ev.step (fun k => by rw [field_rules.l0]) (evPos (by omega) (evPos (by omega) (evPos (by omega) (evPos (by rw [List.length_map, List.length_take]; omega) ?_))))
    rw [rds l i h, w64s i (by omega)]
    have := ih (i + 1) (by omega)
    rw [List.take_succ_eq_append_getElem h, List.map_append] at this
    exact this
theorem rules_ev (kind : Int) (must : Bool) (l : List ByteArray) (hl : l.length ≤ 1000) : Ev (fun k => field_rules.f k kind must l) (l.map (mkR kind must)) := by
  unfold field_rules.f
  exact rules_go kind must l hl l.length 0 (by omega)
theorem FR_go (kind most : Int) (l : List ByteArray) (hl : l.length ≤ 1000) : ∀ (n i : Nat), i + n = l.length →
    Ev (fun k => sealringlaw29_FieldRules.l0 k kind most (l.map (mkR kind true)) (l.map (mkR kind false)) ((l.map (mkR kind true)).map (mostRG most)) ((l.map (mkR kind false)).map lowRG) l (l.length : Int) (i : Int)) true := by
  intro n
  induction n with
  | zero =>
    intro i hi
    exact Ev.step (fun k => by rw [sealringlaw29_FieldRules.l0]) (evNeg (by omega) (Ev.bind lives29 (Ev.now _)))
  | succ n ih =>
    intro i hi
    have h : i < l.length := by omega
    have r1 : rd_T48 (l.map (mkR kind true)) (i : Int) = mkR kind true l[i] := by rw [rdr _ i (by simpa using h)]; simp
    have r2 : rd_T48 (l.map (mkR kind false)) (i : Int) = mkR kind false l[i] := by rw [rdr _ i (by simpa using h)]; simp
    have r3 : rd_T48 ((l.map (mkR kind true)).map (mostRG most)) (i : Int) = mostRG most (mkR kind true l[i]) := by rw [rdr _ i (by simpa using h)]; simp
    have r4 : rd_T48 ((l.map (mkR kind false)).map lowRG) (i : Int) = lowRG (mkR kind false l[i]) := by rw [rdr _ i (by simpa using h)]; simp
    refine Ev.step (fun k => by rw [sealringlaw29_FieldRules.l0]) ?_
    rw [r1, r2, r3, r4, rds l i h, w64s i (by omega)]
    refine evPos (by omega) (evPos (by omega) (evPos (by omega) (evPos (by rw [List.length_map]; omega) (evNeg (by simp [mkR]) (evPos (by rw [List.length_map]; omega) (evNeg (by simp [mkR]) (evPos (by rw [List.length_map, List.length_map]; omega) (evNeg (by simp [mkR]) (evPos (by rw [List.length_map, List.length_map]; omega) (evNeg (by simp [mkR]) ?_))))))))))
    exact ih (i + 1) (by omega)
theorem FieldRules_true (kind most : Int) (l : List ByteArray) : Ev (fun k => sealringlaw29_FieldRules.f k kind most l) true := by
  unfold sealringlaw29_FieldRules.f
  by_cases c : (l.length : Int) > 30
  · exact evPos c (Ev.bind lives29 (Ev.now _))
  refine evNeg c ?_
  have e1 : Ev (fun k => field_Must.f k kind l) (l.map (mkR kind true)) := by unfold field_Must.f; exact Ev.bind (rules_ev kind true l (by omega)) (Ev.now _)
  have e2 : Ev (fun k => field_May.f k kind l) (l.map (mkR kind false)) := by unfold field_May.f; exact Ev.bind (rules_ev kind false l (by omega)) (Ev.now _)
  have e3 : field_Most.f most (l.map (mkR kind true)) = some ((l.map (mkR kind true)).map (mostRG most)) := by unfold field_Most.f; rw [if_pos (by rw [List.length_map]; omega)]
  have e4 : field_Low.f (l.map (mkR kind false)) = some ((l.map (mkR kind false)).map lowRG) := by unfold field_Low.f; rw [if_pos (by rw [List.length_map]; omega)]
  refine Ev.bind e1 (Ev.bind e2 ?_)
  rw [e3]
  refine Ev.bind (Ev.now _) ?_
  rw [e4]
  refine Ev.bind (Ev.now _) (evPos (by simp) (evPos (by simp) (evPos (by simp) ?_)))
  have hg := FR_go kind most l (by omega) l.length 0 (by omega)
  refine Ev.step (fun k => by rw [sealringlaw29_FieldRules.j0]) (evNeg (by simp) ?_)
  exact hg
end Go.Proofs.Ytbnmcnghmnhigaa.X
end
section
namespace Go.Proofs.Ytbnmcnghmnhigaa.X
open Go.RowKit Go.Deep Go.WideShapes Go.Proofs.YtbnmcnghmnhigaaW.PrintWords
set_option linter.unusedVariables false
section
variable {H : Type} {enc : TypeId × Value → H} {P : Program} {w : World} {base : Nat} {sp : Nat → Bool} {held : Bool}
def sumB {α : Type} (f : α → Nat) : List α → Nat
  | [] => 0
  | x :: r => f x + sumB f r
theorem sumB_app {α : Type} (f : α → Nat) : ∀ (l r : List α), sumB f (l ++ r) = sumB f l + sumB f r
  | [], r => by simp [sumB]
  | x :: l, r => by simp only [List.cons_append, sumB, sumB_app f l r]; omega
theorem bulk_app {H : Type} : ∀ (l r : List (DataW H)), Rows.uptoBulkAll (l ++ r) = Rows.uptoBulkAll l + Rows.uptoBulkAll r
  | [], r => by simp [Rows.uptoBulkAll]
  | x :: l, r => by simp only [List.cons_append, Rows.uptoBulkAll, bulk_app l r]; omega
theorem open_C {α : Type} (d : Kd α) (Q : α → Prop) (sz : α → Nat) {t e : TypeId} (ht : P.underlying t = some (.slice e)) (hsz : P.cellsOf e = d.sz) {fuel : Nat}
    (hel : ∀ n cs x, n < fuel → DataW.trod enc P w base sp held n e cs = some x → ∃ y, d.K w y cs ∧ Q y ∧ sz y ≤ Rows.uptoBulk x.1) {cs : List Value} {x : DataW H × List MemPlace} (h : DataW.trod enc P w base sp held fuel t cs = some x) :
    ∃ A c l, cs = [.slice A l.length c] ∧ l.length ≤ c ∧ c ≤ maxLen ∧ d.C w A l.length l ∧ (∀ y ∈ l, Q y) ∧ sumB sz l + 1 ≤ Rows.uptoBulk x.1 := by
  rcases DataW.trod_slice ht h with ⟨rfl, rfl⟩ | ⟨a, len, cap, elems, rest, n, hn, rfl, rfl, hb, hl, hm, hlen, hel2, _, _⟩
  · exact ⟨none, 0, [], rfl, Nat.le_refl _, by decide, ⟨rfl, Nat.zero_le _, fun h => absurd h (Nat.lt_irrefl _)⟩, by simp, by simp [sumB, Rows.uptoBulk]⟩
  · have each : ∀ i, i < len → ∃ y : α, ∃ c, c.length = d.sz ∧ d.K w y c ∧ Q y ∧ (∃ h : i < elems.length, sz y ≤ Rows.uptoBulk elems[i].1) ∧ ∀ j u, c[j]? = some u → w.cell? (a.add (i * d.sz + j)) = some u := fun i hi => by
      have h1 := hel2 i hi
      rw [List.getElem?_eq_getElem (by omega)] at h1
      obtain ⟨cs', h2, h3⟩ := Option.bind_eq_some_iff.1 h1
      obtain ⟨y, hy, hq, hz⟩ := hel n _ _ (by omega) h3
      rw [hsz] at h2
      obtain ⟨_, hlen', hcell⟩ := World.cells?_some h2
      refine ⟨y, cs', hlen', hy, hq, ⟨by omega, hz⟩, fun j u hj => ?_⟩
      have hjl : j < d.sz := by
        rw [← hlen']
        exact (List.getElem?_eq_some_iff.1 hj).1
      have := hcell j hjl
      rw [Deep.add_add] at this
      rw [this]
      exact hj
    have hf : ∀ m, m ≤ len → ∃ l : List α, l.length = m ∧ (∀ y ∈ l, Q y) ∧ sumB sz l ≤ Rows.uptoBulkAll ((elems.take m).map (·.1)) ∧ ∀ j p, l[j]? = some p → ∃ c, c.length = d.sz ∧ d.K w p c ∧ ∀ i u, c[i]? = some u → w.cell? (a.add (j * d.sz + i)) = some u := by
      intro m
      induction m with
      | zero => exact fun _ => ⟨[], rfl, by simp, by simp [sumB], fun j p hj => by simp at hj⟩
      | succ m ih =>
        intro hm'
        obtain ⟨l, h1, h2, h2z, h3⟩ := ih (by omega)
        obtain ⟨y, c, g1, g2, g3, ⟨gl, gz⟩, g4⟩ := each m (by omega)
        refine ⟨l ++ [y], by simp [h1], fun z hz => ?_, ?_, fun j p hj => ?_⟩
        · rcases List.mem_append.1 hz with hz | hz
          · exact h2 z hz
          · obtain rfl := List.mem_singleton.1 hz
            exact g3
        · rw [sumB_app, List.take_succ_eq_append_getElem gl, List.map_append, bulk_app]
          simp only [sumB, List.map_cons, List.map_nil, Rows.uptoBulkAll]
          omega
        · by_cases hjm : j < l.length
          · rw [List.getElem?_append_left hjm] at hj
            exact h3 j p hj
          · rw [List.getElem?_append_right (by omega)] at hj
            have hj0 : j - l.length = 0 := by
              have := (List.getElem?_eq_some_iff.1 hj).1
              simp at this
              omega
            rw [hj0] at hj
            obtain rfl : y = p := by simpa using hj
            have : j = m := by omega
            subst this
            exact ⟨c, g1, g2, g4⟩
    obtain ⟨l, h1, h2, h2z, h3⟩ := hf len (Nat.le_refl _)
    rw [List.take_of_length_le (by omega)] at h2z
    refine ⟨some a, cap, l, by rw [h1], by omega, hm, ⟨rfl, ?_, fun _ => ⟨a, rfl, h3⟩⟩, h2, by simp only [Rows.uptoBulk]; omega⟩
    have : maxLen = 9223372036854775807 := by decide
    omega
end
section
variable {H : Type} {enc : TypeId × Value → H} {w : World} {base : Nat} {sp : Nat → Bool} {held : Bool}
theorem sumB_K : ∀ l : List ByteArray, sumB (fun s : ByteArray => s.size + 1) l = bkK l
  | [] => rfl
  | s :: r => by simp only [sumB, bkK, sumB_K r]
theorem open_strC {fuel : Nat} {cs : List Value} {x : DataW H × List MemPlace} (h : DataW.trod enc Try.prog w base sp held fuel 22 cs = some x) :
    ∃ A c l, cs = [.slice A l.length c] ∧ l.length ≤ c ∧ c ≤ maxLen ∧ Kd.string.C w A l.length l ∧ (∀ y ∈ l, y.size ≤ maxLen) ∧ bkK l + 1 ≤ Rows.uptoBulk x.1 := by
  have := open_C Kd.string (fun y => y.size ≤ maxLen) (fun s : ByteArray => s.size + 1) Try.underlying22 (by kernel_rfl) (fun n cs x _ hx => by
    obtain ⟨s, rfl, rfl, hs⟩ := DataW.trod_string Try.underlying9 hx
    exact ⟨s, rfl, hs, by simp only [Rows.uptoBulk, Array.length_toList]; exact Nat.le_refl _⟩) h
  simpa only [sumB_K] using this
end
end Go.Proofs.Ytbnmcnghmnhigaa.X
end
section
namespace Go.Proofs.Ytbnmcnghmnhigaa.X
open Go.RowKit Go.Deep Go.WideShapes Go.Proofs.YtbnmcnghmnhigaaW.PrintWords
set_option linter.unusedVariables false
section
variable {H : Type} {enc : TypeId × Value → H} {w : World} {base : Nat} {sp : Nat → Bool} {held : Bool}
set_option maxRecDepth 100000 in
theorem open_strs' {b0 : Nat} {r : Reach} {v : Value} {d : DataW H} {ps : List MemPlace} (hv : Value.okWide Try.prog w r b0 22 v) (h : DataW.Trod enc Try.prog w base sp held 22 v d ps) :
    ∃ l A c, v = .slice A (List.length l) c ∧ Kd.string.C w A l.length l ∧ l.length ≤ c ∧ (∀ y ∈ l, y.size ≤ maxLen) ∧ bkK l + 1 ≤ Rows.uptoBulk d := by
  obtain ⟨a, n, c, rfl⟩ := okWide_slice Try.underlying22 hv
  obtain ⟨fuel, hf⟩ := h
  obtain ⟨A, c', l, e, h1, h2, h3, h4, h5⟩ := open_strC hf
  have e2 : [Value.slice a n c] = [.slice A l.length c'] := e
  injection e2 with e2 _
  injection e2 with e3 e4 e5
  subst e3 e4 e5
  exact ⟨l, a, c, rfl, h3, h1, h4, h5⟩
end
end Go.Proofs.Ytbnmcnghmnhigaa.X
end
section
namespace Go.Proofs.Ytbnmcnghmnhigaa.X
open Go.RowKit Go.Proofs.YtbnmcnghmnhigaaW.PrintWords Go.Proofs.YtbnmcnghmnhigaaW.PrintLast
set_option linter.unusedVariables false
theorem FieldRules_walk (kind most : Int) (A2 : Option Addr) (c2 : Nat) (l2 : List ByteArray) (W : World) (g2 : Kd.C Kd.string W A2 l2.length l2) (b2 : l2.length ≤ c2) :
    Calls Try.prog 5 #[.int .i64 kind, .int .i64 most, .slice A2 l2.length c2] W fun e W' => e = .returned (.bool true) ∧ Below W.heap.size W W' := by
  obtain ⟨k, hk⟩ := (FieldRules_true kind most l2).rounds
  exact sealringlaw29_FieldRules.calls k kind most A2 c2 l2 true W g2 b2 hk
end Go.Proofs.Ytbnmcnghmnhigaa.X
end
section
namespace Go.Proofs.YtbnmcnghmnhigaaW.PrintWords
open Go.ChangeShapes Go.WideShapes
end Go.Proofs.YtbnmcnghmnhigaaW.PrintWords
end
section
namespace Go.Proofs.Ytbnmcnghmnhigaa.fieldRules
open Go.ChangeShapes Go.WideShapes Go.ChangeAt Go.RowKit
open Go.ChangeMaps (open_string shut_string)
set_option linter.unusedVariables false
theorem own : ownKnob Try.prog.godebug = none := by kernel_rfl
theorem laidOut : laidOutB Try.prog = true := by kernel_rfl
set_option maxRecDepth 100000 in
theorem lifted (os : Os) (started : os.Started) (H : Type) (enc : TypeId × Value → H) :
    ReturnsInHanded {} Try.checked os 5 .any (Rows.fieldRulesSpec.pre6 enc Try.prog Try.f5 Rows.fieldRulesRow.domain false) (Rows.fieldRulesSpec.post enc Try.prog Try.f5 false true false false) := by
  refine returnsInHanded_of_change_sized (C := Try.checked) own started (by kernel_rfl) Try.func5
    (ChangeSpec.witness6 (enc := enc) (C := Try.checked) false ⟨#[], #[.int .i64 0, .int .i64 0, .slice none 0 0], []⟩ 8 (by kernel_rfl) (by kernel_rfl) (by kernel_rfl) (by kernel_rfl)) ?_
  intro W base args ds gs before hval0 hW hcnd hsz0 _
  have hsz : (DataW.weightsEach Try.prog (Try.f5.params.toList ++ Rows.fieldRulesSpec.plain.varTypes Try.prog) (ds ++ gs)).all (· ≤ reachBytes) = true := hsz0
  have hval : ∀ (j : Nat) t v, Try.f5.params[j]? = some t → args[j]? = some v → Value.okWide Try.prog W .any base t v := hval0
  have hW' := hW
  obtain ⟨p, q, hA0, hV, rfl, hfz, hnd⟩ := hW
  have hA : DataW.TrodAll enc Try.prog W 0 (fun _ => true) true Try.f5.params.toList args.toList ds p := hA0
  rw [Try.params5] at hA hval hsz
  obtain ⟨v0, vs0, d0, ds0, p0, q0, hargs, rfl, rfl, h0, r0⟩ := trodAll_cons hA
  obtain ⟨v1, vs1, d1, ds1, p1, q1, rfl, rfl, rfl, h1, r1⟩ := trodAll_cons r0
  obtain ⟨v2, vs2, d2, ds2, p2, q2, rfl, rfl, rfl, h2, r2⟩ := trodAll_cons r1
  obtain ⟨rfl, rfl, rfl⟩ := trodAll_nil r2
  obtain rfl : args = #[v0, v1, v2] := by cases args; simp_all
  obtain ⟨rfl, rfl⟩ := trodVars_none hV
  obtain ⟨a0, rfl, rfl, rfl, w0⟩ := open_int Try.underlying3 (hval 0 3 v0 rfl rfl) h0
  obtain ⟨a1, rfl, rfl, rfl, w1⟩ := open_int Try.underlying3 (hval 1 3 v1 rfl rfl) h1
  have k2 := h2
  have lt2 : ∀ x ∈ p2, x.block < W.heap.size := by obtain ⟨m, hm⟩ := k2; exact DataW.trod_lt m _ _ _ hm
  obtain ⟨l2, A2, c2, rfl, g2, b2, ok2, bk2⟩ := X.open_strs' (hval 2 22 v2 rfl rfl) h2
  clear hA0 hval0 hsz0 hsz
  refine (X.FieldRules_walk a0 a1 A2 c2 l2 W g2 b2).mono fun e W' ⟨he, bel⟩ => ?_
  subst he
  exact ⟨_, rfl, _, _, _, [], _, [], hW', trodAll_mk1 (shut_bool Try.underlying4 _), (trodAll_cons_mk (shut_int Try.underlying3 w0) (trodAll_cons_mk (shut_int Try.underlying3 w1) (trodAll_cons_mk (Below.trod laidOut (by kernel_rfl) (of_decide_eq_true (by kernel_rfl)) k2 bel lt2) trodAll_mk0))), rfl, bel.frame _, fun h => by cases h⟩
theorem over : Rows.fieldRulesRow.holds Try.pinned (OpenSpec.ofChange Rows.fieldRulesSpec) :=
  OpenClaim.holds_of_wide 5 Try.f5 rfl rfl rfl rfl rfl rfl rfl ⟨rfl, rfl, rfl, rfl, rfl⟩ rfl rfl rfl rfl rfl (by kernel_rfl) Try.func5 (by kernel_rfl)
    (of_decide_eq_true (by kernel_rfl)) (by unfold Func.isWrapper; first | (rw [if_pos (by decide +kernel)]; kernel_rfl) | (rw [if_neg (by decide +kernel)]; exact ⟨rfl, rfl⟩))
    (fun os started H enc _ => lifted os started H enc)
theorem proved : Rows.FieldRulesSaid := over
#print axioms proved
end Go.Proofs.Ytbnmcnghmnhigaa.fieldRules
namespace Go.Proofs.Ytbnmcnghmnhigaa
/-- The row, under a short name, for the claim. -/
theorem fieldRules_holds : Rows.FieldRulesSaid := fieldRules.proved
end Go.Proofs.Ytbnmcnghmnhigaa
end
