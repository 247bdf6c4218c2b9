import Derived.Test.YtbnmcnghmnhigaaC29B4
section
namespace Go.Proofs.Ytbnmcnghmnhigaa.X
open Go.RowKit Go.Proofs.YtbnmcnghmnhigaaW.PrintWords Go.Proofs.YtbnmcnghmnhigaaW.PrintLast Go.Proofs.YtbnmcnghmnhigaaW.PrintMore
attribute [local go_sem] max2_int min2_int max_two min_two max_three min_three max_four min_four
set_option linter.unusedVariables false
set_option linter.unusedSimpArgs false
mutual
def sealringref29_One.j0 : Nat → Bool → ByteArray → Int → Bool → Int → Bool → Int → Int → ByteArray → List ByteArray → List (S25) → Option (Int)
  | 0, _, _, _, _, _, _, _, _, _, _, _ => none
  | k + 1, x27, x551000, x551001, x551002, x551003, x551004, x562000, x562001, x562002, x562003, x562004 => if x27 = true then (some 16) else (if x551003 > 0 then (if x562000 = 4 then (sealringref29_One.j1 k (decide ((x562002.size : Int) > x551003)) x551000 x551001 x551002 x551003 x551004 x562000 x562001 x562002 x562003 x562004) else (sealringref29_One.j1 k false x551000 x551001 x551002 x551003 x551004 x562000 x562001 x562002 x562003 x562004)) else (sealringref29_One.j1 k false x551000 x551001 x551002 x551003 x551004 x562000 x562001 x562002 x562003 x562004))
def sealringref29_One.j1 : Nat → Bool → ByteArray → Int → Bool → Int → Bool → Int → Int → ByteArray → List ByteArray → List (S25) → Option (Int)
  | 0, _, _, _, _, _, _, _, _, _, _, _ => none
  | k + 1, x43, x551000, x551001, x551002, x551003, x551004, x562000, x562001, x562002, x562003, x562004 => if x43 = true then (some 4) else (if x551003 > 0 then (if x562000 = 5 then (sealringref29_One.j2 k (decide ((x562004.length : Int) > x551003)) x551000 x551001 x551002 x551003 x551004 x562000 x562001 x562002 x562003 x562004) else (if x562000 = 6 then (sealringref29_One.j2 k (decide ((x562004.length : Int) > x551003)) x551000 x551001 x551002 x551003 x551004 x562000 x562001 x562002 x562003 x562004) else (sealringref29_One.j2 k false x551000 x551001 x551002 x551003 x551004 x562000 x562001 x562002 x562003 x562004))) else (sealringref29_One.j2 k false x551000 x551001 x551002 x551003 x551004 x562000 x562001 x562002 x562003 x562004))
def sealringref29_One.j2 : Nat → Bool → ByteArray → Int → Bool → Int → Bool → Int → Int → ByteArray → List ByteArray → List (S25) → Option (Int)
  | 0, _, _, _, _, _, _, _, _, _, _, _ => none
  | k + 1, x64, x551000, x551001, x551002, x551003, x551004, x562000, x562001, x562002, x562003, x562004 => if x64 = true then (some 18) else (if x551004 = true then (if x562000 = 3 then (if x562001 < 0 then (some 2) else (some 0)) else (some 0)) else (some 0))
end
def sealringref29_One.f (k : Nat) (a0_0 : Int) (a0_1 : Int) (a0_2 : ByteArray) (l0_3 : List ByteArray) (l0_4 : List (S25)) (a1_0 : ByteArray) (a1_1 : Int) (a1_2 : Bool) (a1_3 : Int) (a1_4 : Bool) : Option (Int) := (sealringref07_Get.f k a0_0 a0_1 a0_2 l0_3 l0_4 a1_0).bind fun bt551 => (if bt551.2.2.2.2.2 = true then (if a1_1 = 0 then (sealringref29_One.j0 k false a1_0 a1_1 a1_2 a1_3 a1_4 bt551.1 bt551.2.1 bt551.2.2.1 bt551.2.2.2.1 bt551.2.2.2.2.1) else (sealringref29_One.j0 k (bt551.1 != a1_1) a1_0 a1_1 a1_2 a1_3 a1_4 bt551.1 bt551.2.1 bt551.2.2.1 bt551.2.2.2.1 bt551.2.2.2.2.1)) else (if a1_2 = true then (some 15) else (some 0)))
theorem sealringref29_One.mono_l : ∀ k, (∀ y0 y1 y2 y3 y4 y5 y6 y7 y8 y9 y10, LeO (sealringref29_One.j0 k y0 y1 y2 y3 y4 y5 y6 y7 y8 y9 y10) (sealringref29_One.j0 (k + 1) y0 y1 y2 y3 y4 y5 y6 y7 y8 y9 y10)) ∧ (∀ y0 y1 y2 y3 y4 y5 y6 y7 y8 y9 y10, LeO (sealringref29_One.j1 k y0 y1 y2 y3 y4 y5 y6 y7 y8 y9 y10) (sealringref29_One.j1 (k + 1) y0 y1 y2 y3 y4 y5 y6 y7 y8 y9 y10)) ∧ (∀ y0 y1 y2 y3 y4 y5 y6 y7 y8 y9 y10, LeO (sealringref29_One.j2 k y0 y1 y2 y3 y4 y5 y6 y7 y8 y9 y10) (sealringref29_One.j2 (k + 1) y0 y1 y2 y3 y4 y5 y6 y7 y8 y9 y10))
  | 0 => ⟨fun _ _ _ _ _ _ _ _ _ _ _ r h => by simp [sealringref29_One.j0] at h, fun _ _ _ _ _ _ _ _ _ _ _ r h => by simp [sealringref29_One.j1] at h, fun _ _ _ _ _ _ _ _ _ _ _ r h => by simp [sealringref29_One.j2] at h⟩
  | k + 1 => by
    obtain ⟨ih0, ih1, ih2⟩ := sealringref29_One.mono_l k
    refine ⟨?_, ?_, ?_⟩
    · intro y0 y1 y2 y3 y4 y5 y6 y7 y8 y9 y10
      unfold sealringref29_One.j0
      repeat' first
      | (with_reducible exact ih0 _ _ _ _ _ _ _ _ _ _ _)
      | (with_reducible exact ih1 _ _ _ _ _ _ _ _ _ _ _)
      | (with_reducible exact ih2 _ _ _ _ _ _ _ _ _ _ _)
      | (with_reducible exact sealringref07_Get.mono _ _ _ _ _ _ _)
      | (with_reducible exact LeO.refl _)
      | (with_reducible exact LeO.none _)
      | (with_reducible refine LeO.ite ?_ ?_)
      | (with_reducible refine LeO.bind ?_ (fun _ => ?_))
      | exact ih0 _ _ _ _ _ _ _ _ _ _ _
      | exact ih1 _ _ _ _ _ _ _ _ _ _ _
      | exact ih2 _ _ _ _ _ _ _ _ _ _ _
      | exact sealringref07_Get.mono _ _ _ _ _ _ _
      | exact LeO.none _
      | refine LeO.ite ?_ ?_
      | refine LeO.bind ?_ (fun _ => ?_)
    · intro y0 y1 y2 y3 y4 y5 y6 y7 y8 y9 y10
      unfold sealringref29_One.j1
      repeat' first
      | (with_reducible exact ih0 _ _ _ _ _ _ _ _ _ _ _)
      | (with_reducible exact ih1 _ _ _ _ _ _ _ _ _ _ _)
      | (with_reducible exact ih2 _ _ _ _ _ _ _ _ _ _ _)
      | (with_reducible exact sealringref07_Get.mono _ _ _ _ _ _ _)
      | (with_reducible exact LeO.refl _)
      | (with_reducible exact LeO.none _)
      | (with_reducible refine LeO.ite ?_ ?_)
      | (with_reducible refine LeO.bind ?_ (fun _ => ?_))
      | exact ih0 _ _ _ _ _ _ _ _ _ _ _
      | exact ih1 _ _ _ _ _ _ _ _ _ _ _
      | exact ih2 _ _ _ _ _ _ _ _ _ _ _
      | exact sealringref07_Get.mono _ _ _ _ _ _ _
      | exact LeO.none _
      | refine LeO.ite ?_ ?_
      | refine LeO.bind ?_ (fun _ => ?_)
    · intro y0 y1 y2 y3 y4 y5 y6 y7 y8 y9 y10
      unfold sealringref29_One.j2
      repeat' first
      | (with_reducible exact ih0 _ _ _ _ _ _ _ _ _ _ _)
      | (with_reducible exact ih1 _ _ _ _ _ _ _ _ _ _ _)
      | (with_reducible exact ih2 _ _ _ _ _ _ _ _ _ _ _)
      | (with_reducible exact sealringref07_Get.mono _ _ _ _ _ _ _)
      | (with_reducible exact LeO.refl _)
      | (with_reducible exact LeO.none _)
      | (with_reducible refine LeO.ite ?_ ?_)
      | (with_reducible refine LeO.bind ?_ (fun _ => ?_))
      | exact ih0 _ _ _ _ _ _ _ _ _ _ _
      | exact ih1 _ _ _ _ _ _ _ _ _ _ _
      | exact ih2 _ _ _ _ _ _ _ _ _ _ _
      | exact sealringref07_Get.mono _ _ _ _ _ _ _
      | exact LeO.none _
      | refine LeO.ite ?_ ?_
      | refine LeO.bind ?_ (fun _ => ?_)
theorem sealringref29_One.mono : ∀ a0 a1 a2 a3 a4 a5 a6 a7 a8 a9 k, LeO (sealringref29_One.f k a0 a1 a2 a3 a4 a5 a6 a7 a8 a9) (sealringref29_One.f (k + 1) a0 a1 a2 a3 a4 a5 a6 a7 a8 a9) := by
  intro a0 a1 a2 a3 a4 a5 a6 a7 a8 a9 k
  obtain ⟨ih0, ih1, ih2⟩ := sealringref29_One.mono_l k
  unfold sealringref29_One.f
  repeat' first
      | (with_reducible exact ih0 _ _ _ _ _ _ _ _ _ _ _)
      | (with_reducible exact ih1 _ _ _ _ _ _ _ _ _ _ _)
      | (with_reducible exact ih2 _ _ _ _ _ _ _ _ _ _ _)
      | (with_reducible exact sealringref07_Get.mono _ _ _ _ _ _ _)
      | (with_reducible exact LeO.refl _)
      | (with_reducible exact LeO.none _)
      | (with_reducible refine LeO.ite ?_ ?_)
      | (with_reducible refine LeO.bind ?_ (fun _ => ?_))
      | exact ih0 _ _ _ _ _ _ _ _ _ _ _
      | exact ih1 _ _ _ _ _ _ _ _ _ _ _
      | exact ih2 _ _ _ _ _ _ _ _ _ _ _
      | exact sealringref07_Get.mono _ _ _ _ _ _ _
      | exact LeO.none _
      | refine LeO.ite ?_ ?_
      | refine LeO.bind ?_ (fun _ => ?_)
set_option maxHeartbeats 8000000 in
set_option maxRecDepth 100000 in
theorem sealringref29_One.calls (k : Nat) (a0_0 : Int) (a0_1 : Int) (a0_2 : ByteArray) (A0_3 : Option Addr) (c0_3 : Nat) (l0_3 : List ByteArray) (A0_4 : Option Addr) (c0_4 : Nat) (l0_4 : List (S25)) (a1_0 : ByteArray) (a1_1 : Int) (a1_2 : Bool) (a1_3 : Int) (a1_4 : Bool) (r : Int) (w : World) (hr0_3 : Kd.C Kd.string w A0_3 l0_3.length l0_3) (hc0_3 : l0_3.length ≤ c0_3) (hr0_4 : Kd.C k25 w A0_4 l0_4.length l0_4) (hc0_4 : l0_4.length ≤ c0_4) (h : sealringref29_One.f k a0_0 a0_1 a0_2 l0_3 l0_4 a1_0 a1_1 a1_2 a1_3 a1_4 = some r) :
    Calls Try.prog 80 #[.agg #[.int .i64 a0_0, .int .i64 a0_1, .string a0_2, .slice A0_3 l0_3.length c0_3, .slice A0_4 l0_4.length c0_4], .agg #[.string a1_0, .int .i64 a1_1, .bool a1_2, .int .i64 a1_3, .bool a1_4]] w fun e w' => e = .returned (.int .i64 r) ∧ Below w.heap.size w w' := by
  have hu25 := Try.underlying25
  have hu48 := Try.underlying48
  have HR0_3 := Aside0.mk hr0_3
  have HC0_3 := Aside0.mk hc0_3
  clear hr0_3 hc0_3
  have HR0_4 := Aside0.mk hr0_4
  have HC0_4 := Aside0.mk hc0_4
  clear hr0_4 hc0_4
  have HB := Aside0.mk (Below.refl w.heap.size w)
  have H : ((sealringref07_Get.f k a0_0 a0_1 a0_2 l0_3 l0_4 a1_0).bind fun bt551 => (if bt551.2.2.2.2.2 = true then (if a1_1 = 0 then (sealringref29_One.j0 k false a1_0 a1_1 a1_2 a1_3 a1_4 bt551.1 bt551.2.1 bt551.2.2.1 bt551.2.2.2.1 bt551.2.2.2.2.1) else (sealringref29_One.j0 k (bt551.1 != a1_1) a1_0 a1_1 a1_2 a1_3 a1_4 bt551.1 bt551.2.1 bt551.2.2.1 bt551.2.2.2.1 bt551.2.2.2.2.1)) else (if a1_2 = true then (some 15) else (some 0)))) = some r := h
  clear h
  replace H := Option.bind_eq_some_iff.mp H
  obtain ⟨⟨t551, t552, t553, t554, t557, t560⟩, A30, H⟩ := H
  replace H : (if t560 = true then (if a1_1 = 0 then (sealringref29_One.j0 k false a1_0 a1_1 a1_2 a1_3 a1_4 t551 t552 t553 t554 t557) else (sealringref29_One.j0 k (t551 != a1_1) a1_0 a1_1 a1_2 a1_3 a1_4 t551 t552 t553 t554 t557)) else (if a1_2 = true then (some 15) else (some 0))) = some r := H
  have A3 := Aside0.mk A30
  clear A30
  by_cases c4 : t560 = true
  · subst c4
    have H1 : (if a1_1 = 0 then (sealringref29_One.j0 k false a1_0 a1_1 a1_2 a1_3 a1_4 t551 t552 t553 t554 t557) else (sealringref29_One.j0 k (t551 != a1_1) a1_0 a1_1 a1_2 a1_3 a1_4 t551 t552 t553 t554 t557)) = some r := by rw [if_pos rfl] at H; exact H
    clear H
    have H := H1
    clear H1
    have HC5 := Aside0.mk H
    clear H
    go_enter Try.func80, Try.ntmps80
    go_upto_region 6 with (first | ((with_reducible refine gate_dst (N := 2) rfl ?_); (try (refine gate_guard (by rfl) ?_; dsimp only)); refine box_event ?hg (N := 2) ?hd (cs := #[.int .i64 a0_0, .int .i64 a0_1, .string a0_2, .slice A0_3 l0_3.length c0_3, .slice A0_4 l0_4.length c0_4]) (t := 25) ?hr ?_; (case hd => rfl); (case hg => rfl); (case hr => first | (go_simp; done) | (go_simp; rfl)); intro gb549 hg w6 hbox hb; have n0_ := Aside0.mk (below_step (by repeat (first | (with_reducible first | exact HB.out | apply below_alloc | apply pw_below_drewN | apply below_drew1) | exact HB.out)) hb); have n1_ := Aside0.mk (hbox); have n2_ := Aside0.mk ((by rw [hg]; exact (below_size (by repeat (first | (with_reducible first | exact HB.out | apply below_alloc | apply pw_below_drewN | apply below_drew1) | exact HB.out))) : w.heap.size ≤ gb549)); have n3_ := Aside0.mk ((by rw [hg]; exact (below_size (by repeat (first | (with_reducible first | exact HB.out | apply below_alloc | apply pw_below_drewN | apply below_drew1) | exact HB.out))) : w.heap.size ≤ gb549)); clear HB; have HB := n0_; have BK549 := n1_; have GW549 := n2_; have GE549 := n3_; clear n0_ n1_ n2_ n3_; clear hb hbox hg) | ((with_reducible refine gate_dst (N := 3) rfl ?_); (try (refine gate_guard (by rfl) ?_; dsimp only)); refine box_event ?hg (N := 3) ?hd (cs := #[.string a1_0, .int .i64 a1_1, .bool a1_2, .int .i64 a1_3, .bool a1_4]) (t := 48) ?hr ?_; (case hd => rfl); (case hg => rfl); (case hr => first | (go_simp; done) | (go_simp; rfl)); intro gb550 hg w7 hbox hb; have n0_ := Aside0.mk (blk_below (g := gb549) (o := .cells #[.int .i64 a0_0, .int .i64 a0_1, .string a0_2, .slice A0_3 l0_3.length c0_3, .slice A0_4 l0_4.length c0_4] 25 (0, 0)) (by (with_reducible repeat (first | refine blk_drewN ?_ _ | refine blk_drew ?_ | refine blk_alloc ?_ _)); exact BK549.out) hb); have n1_ := Aside0.mk (below_step (by repeat (first | (with_reducible first | exact HB.out | apply below_alloc | apply pw_below_drewN | apply below_drew1 | refine below_set ?_ GE549.out) | exact HB.out)) hb); have n2_ := Aside0.mk (hbox); have n3_ := Aside0.mk ((by rw [hg]; exact (below_size (by repeat (first | (with_reducible first | exact HB.out | apply below_alloc | apply pw_below_drewN | apply below_drew1 | refine below_set ?_ GE549.out) | exact HB.out))) : w.heap.size ≤ gb550)); have n4_ := Aside0.mk ((by rw [hg]; exact (below_size (by repeat (first | (with_reducible first | exact HB.out | apply below_alloc | apply pw_below_drewN | apply below_drew1 | refine below_set ?_ GE549.out) | exact HB.out))) : w.heap.size ≤ gb550)); have n5_ := Aside0.mk ((by rw [hg]; exact Nat.ne_of_lt (blk_lt (g := gb549) (o := .cells #[.int .i64 a0_0, .int .i64 a0_1, .string a0_2, .slice A0_3 l0_3.length c0_3, .slice A0_4 l0_4.length c0_4] 25 (0, 0)) (by (with_reducible repeat (first | refine blk_drewN ?_ _ | refine blk_drew ?_ | refine blk_alloc ?_ _)); exact BK549.out)) : gb549 ≠ gb550)); have n6_ := Aside0.mk ((by rw [hg]; exact Nat.ne_of_gt (blk_lt (g := gb549) (o := .cells #[.int .i64 a0_0, .int .i64 a0_1, .string a0_2, .slice A0_3 l0_3.length c0_3, .slice A0_4 l0_4.length c0_4] 25 (0, 0)) (by (with_reducible repeat (first | refine blk_drewN ?_ _ | refine blk_drew ?_ | refine blk_alloc ?_ _)); exact BK549.out)) : gb550 ≠ gb549)); clear BK549; clear HB; have BK549 := n0_; have HB := n1_; have BK550 := n2_; have GW550 := n3_; have GE550 := n4_; have NB549_550 := n5_; have NB550_549 := n6_; clear n0_ n1_ n2_ n3_ n4_ n5_ n6_; clear hb hbox hg; have hnb8 := NB549_550.out; have hnc8 := NB550_549.out; have hcz9_0 : w7.cell? ⟨gb549, 0, none⟩ = some (.int .i64 a0_0) := (blk_cell BK549.out 0).trans rfl; have hcz9_1 : w7.cell? ⟨gb549, 1, none⟩ = some (.int .i64 a0_1) := (blk_cell BK549.out 1).trans rfl; have hcz9_2 : w7.cell? ⟨gb549, 2, none⟩ = some (.string a0_2) := (blk_cell BK549.out 2).trans rfl; have hcz9_3 : w7.cell? ⟨gb549, 3, none⟩ = some (.slice A0_3 l0_3.length c0_3) := (blk_cell BK549.out 3).trans rfl; have hcz9_4 : w7.cell? ⟨gb549, 4, none⟩ = some (.slice A0_4 l0_4.length c0_4) := (blk_cell BK549.out 4).trans rfl; have hfz9_0 := blk_frozen BK549.out 0; have hfz9_1 := blk_frozen BK549.out 1; have hfz9_2 := blk_frozen BK549.out 2; have hfz9_3 := blk_frozen BK549.out 3; have hfz9_4 := blk_frozen BK549.out 4; have hcz10_0 : w7.cell? ⟨gb550, 0, none⟩ = some (.string a1_0) := (blk_cell BK550.out 0).trans rfl; have hcz10_1 : w7.cell? ⟨gb550, 1, none⟩ = some (.int .i64 a1_1) := (blk_cell BK550.out 1).trans rfl; have hcz10_2 : w7.cell? ⟨gb550, 2, none⟩ = some (.bool a1_2) := (blk_cell BK550.out 2).trans rfl; have hcz10_3 : w7.cell? ⟨gb550, 3, none⟩ = some (.int .i64 a1_3) := (blk_cell BK550.out 3).trans rfl; have hcz10_4 : w7.cell? ⟨gb550, 4, none⟩ = some (.bool a1_4) := (blk_cell BK550.out 4).trans rfl; have hfz10_0 := blk_frozen BK550.out 0; have hfz10_1 := blk_frozen BK550.out 1; have hfz10_2 := blk_frozen BK550.out 2; have hfz10_3 := blk_frozen BK550.out 3; have hfz10_4 := blk_frozen BK550.out 4) | ((with_reducible refine gate_callee (f := 62) rfl ?_); refine goesL_ (some 11) rfl rfl Try.func62 (by kernel_rfl) rfl #[.agg #[.int .i64 a0_0, .int .i64 a0_1, .string a0_2, .slice A0_3 l0_3.length c0_3, .slice A0_4 l0_4.length c0_4], .string a1_0] rfl (by (try simp only [List.map_toArray, List.map_cons, List.map_nil]); first | done | rfl | (simp only [List.length_drop, List.length_take]; rfl)) ?_; (with_reducible refine (sealringref07_Get.calls k a0_0 a0_1 a0_2 _ _ l0_3 (fun k_ => k_ < w.heap.size) _ _ l0_4 a1_0 t551 t552 t553 t554 t557 true _ ?side1 ?side2 ?side3 A3.out).mono ?_); (case side1 => repeat (first | exact (Kd.C_below HR0_3.out HB.out) | (with_reducible refine Kd.C_alloc ?_ _) | (with_reducible refine Kd.C_drewN ?_ _) | (with_reducible refine Kd.C_drew ?_))); (case side2 => exact HC0_3.out); (case side3 => exact Kd.V_mk HC0_4.out (Kd.F_below (Kd.C_F k25_heap HR0_4.out) (by repeat (first | (with_reducible first | exact HB.out | apply below_alloc | apply pw_below_drewN | apply below_drew1 | refine below_set ?_ GE549.out | refine below_set ?_ GE550.out) | exact HB.out)))); rintro e w11 ⟨v555, v558, rfl, ho0, ho1, hb⟩; refine ⟨_, rfl, ?_⟩; have n0_ := Aside0.mk (Kd.V_lower (Kd.V_mono (ok' := fun k_ => k_ ≠ gb549 ∧ k_ ≠ gb550) ho0 (fun k_ hk_ => ⟨Or.elim hk_ (fun hs_ => fun e_ => Nat.not_le.2 hs_ (by rw [e_]; exact GW549.out)) (fun hn_ => (Kd.freshB (g := gb549) (o := .cells #[.int .i64 a0_0, .int .i64 a0_1, .string a0_2, .slice A0_3 l0_3.length c0_3, .slice A0_4 l0_4.length c0_4] 25 (0, 0)) (by (with_reducible repeat (first | refine blk_drewN ?_ _ | refine blk_drew ?_ | refine blk_alloc ?_ _)); exact BK549.out) k_ hn_)), Or.elim hk_ (fun hs_ => fun e_ => Nat.not_le.2 hs_ (by rw [e_]; exact GW550.out)) (fun hn_ => (Kd.freshB (g := gb550) (o := .cells #[.string a1_0, .int .i64 a1_1, .bool a1_2, .int .i64 a1_3, .bool a1_4] 48 (0, 0)) (by (with_reducible repeat (first | refine blk_drewN ?_ _ | refine blk_drew ?_ | refine blk_alloc ?_ _)); exact BK550.out) k_ hn_))⟩)) (below_size (by repeat (first | (with_reducible first | exact HB.out | apply below_alloc | apply pw_below_drewN | apply below_drew1 | refine below_set ?_ GE549.out | refine below_set ?_ GE550.out) | exact HB.out)))); have n1_ := Aside0.mk (Kd.V_lower (Kd.V_mono (ok' := fun k_ => k_ ≠ gb549 ∧ k_ ≠ gb550) ho1 (fun k_ hk_ => ⟨Or.elim hk_ (fun hs_ => fun e_ => Nat.not_le.2 hs_ (by rw [e_]; exact GW549.out)) (fun hn_ => (Kd.freshB (g := gb549) (o := .cells #[.int .i64 a0_0, .int .i64 a0_1, .string a0_2, .slice A0_3 l0_3.length c0_3, .slice A0_4 l0_4.length c0_4] 25 (0, 0)) (by (with_reducible repeat (first | refine blk_drewN ?_ _ | refine blk_drew ?_ | refine blk_alloc ?_ _)); exact BK549.out) k_ hn_)), Or.elim hk_ (fun hs_ => fun e_ => Nat.not_le.2 hs_ (by rw [e_]; exact GW550.out)) (fun hn_ => (Kd.freshB (g := gb550) (o := .cells #[.string a1_0, .int .i64 a1_1, .bool a1_2, .int .i64 a1_3, .bool a1_4] 48 (0, 0)) (by (with_reducible repeat (first | refine blk_drewN ?_ _ | refine blk_drew ?_ | refine blk_alloc ?_ _)); exact BK550.out) k_ hn_))⟩)) (below_size (by repeat (first | (with_reducible first | exact HB.out | apply below_alloc | apply pw_below_drewN | apply below_drew1 | refine below_set ?_ GE549.out | refine below_set ?_ GE550.out) | exact HB.out)))); have n2_ := Aside0.mk (blk_below (g := gb549) (o := .cells #[.int .i64 a0_0, .int .i64 a0_1, .string a0_2, .slice A0_3 l0_3.length c0_3, .slice A0_4 l0_4.length c0_4] 25 (0, 0)) (by (with_reducible repeat (first | refine blk_drewN ?_ _ | refine blk_drew ?_ | refine blk_alloc ?_ _)); exact BK549.out) hb); have n3_ := Aside0.mk (blk_below (g := gb550) (o := .cells #[.string a1_0, .int .i64 a1_1, .bool a1_2, .int .i64 a1_3, .bool a1_4] 48 (0, 0)) (by (with_reducible repeat (first | refine blk_drewN ?_ _ | refine blk_drew ?_ | refine blk_alloc ?_ _)); exact BK550.out) hb); have n4_ := Aside0.mk (below_step (by repeat (first | (with_reducible first | exact HB.out | apply below_alloc | apply pw_below_drewN | apply below_drew1 | refine below_set ?_ GE549.out | refine below_set ?_ GE550.out) | exact HB.out)) hb); clear BK549; clear BK550; clear HB; have HO556 := n0_; have HO559 := n1_; have BK549 := n2_; have BK550 := n3_; have HB := n4_; clear n0_ n1_ n2_ n3_ n4_; (try clear hb); (try clear hb2); (try clear hk); (try clear hi); (try clear ho0); (try clear ho1)) | ((with_reducible refine gate_dst (N := 5) rfl ?_); (try (refine gate_guard (by rfl) ?_; dsimp only)); refine box_event ?hg (N := 5) ?hd (cs := #[.int .i64 0, .int .i64 0, .string (⟨#[]⟩ : ByteArray), .slice none 0 0, .slice none 0 0]) (t := 25) ?hr ?_; (case hd => rfl); (case hg => rfl); (case hr => first | (go_simp; done) | (go_simp; rfl)); intro gb561 hg w12 hbox hb; have n0_ := Aside0.mk (Kd.V_below (Kd.V_elderB (by (with_reducible repeat (first | apply Kd.V_alloc | apply Kd.V_drewN | apply Kd.V_drew)); exact HO556.out) gb561 (Nat.le_of_eq hg.symm)) hb); have n1_ := Aside0.mk (Kd.V_below (Kd.V_elderB (by (with_reducible repeat (first | apply Kd.V_alloc | apply Kd.V_drewN | apply Kd.V_drew)); exact HO559.out) gb561 (Nat.le_of_eq hg.symm)) hb); have n2_ := Aside0.mk (blk_below (g := gb549) (o := .cells #[.int .i64 a0_0, .int .i64 a0_1, .string a0_2, .slice A0_3 l0_3.length c0_3, .slice A0_4 l0_4.length c0_4] 25 (0, 0)) (by (with_reducible repeat (first | refine blk_drewN ?_ _ | refine blk_drew ?_ | refine blk_alloc ?_ _)); exact BK549.out) hb); have n3_ := Aside0.mk (blk_below (g := gb550) (o := .cells #[.string a1_0, .int .i64 a1_1, .bool a1_2, .int .i64 a1_3, .bool a1_4] 48 (0, 0)) (by (with_reducible repeat (first | refine blk_drewN ?_ _ | refine blk_drew ?_ | refine blk_alloc ?_ _)); exact BK550.out) hb); have n4_ := Aside0.mk (below_step (by repeat (first | (with_reducible first | exact HB.out | apply below_alloc | apply pw_below_drewN | apply below_drew1 | refine below_set ?_ GE549.out | refine below_set ?_ GE550.out) | exact HB.out)) hb); have n5_ := Aside0.mk (hbox); have n6_ := Aside0.mk ((by rw [hg]; exact (below_size (by repeat (first | (with_reducible first | exact HB.out | apply below_alloc | apply pw_below_drewN | apply below_drew1 | refine below_set ?_ GE549.out | refine below_set ?_ GE550.out) | exact HB.out))) : w.heap.size ≤ gb561)); have n7_ := Aside0.mk ((by rw [hg]; exact (below_size (by repeat (first | (with_reducible first | exact HB.out | apply below_alloc | apply pw_below_drewN | apply below_drew1 | refine below_set ?_ GE549.out | refine below_set ?_ GE550.out) | exact HB.out))) : w.heap.size ≤ gb561)); have n8_ := Aside0.mk ((by rw [hg]; exact Nat.ne_of_lt (blk_lt (g := gb549) (o := .cells #[.int .i64 a0_0, .int .i64 a0_1, .string a0_2, .slice A0_3 l0_3.length c0_3, .slice A0_4 l0_4.length c0_4] 25 (0, 0)) (by (with_reducible repeat (first | refine blk_drewN ?_ _ | refine blk_drew ?_ | refine blk_alloc ?_ _)); exact BK549.out)) : gb549 ≠ gb561)); have n9_ := Aside0.mk ((by rw [hg]; exact Nat.ne_of_gt (blk_lt (g := gb549) (o := .cells #[.int .i64 a0_0, .int .i64 a0_1, .string a0_2, .slice A0_3 l0_3.length c0_3, .slice A0_4 l0_4.length c0_4] 25 (0, 0)) (by (with_reducible repeat (first | refine blk_drewN ?_ _ | refine blk_drew ?_ | refine blk_alloc ?_ _)); exact BK549.out)) : gb561 ≠ gb549)); have n10_ := Aside0.mk ((by rw [hg]; exact Nat.ne_of_lt (blk_lt (g := gb550) (o := .cells #[.string a1_0, .int .i64 a1_1, .bool a1_2, .int .i64 a1_3, .bool a1_4] 48 (0, 0)) (by (with_reducible repeat (first | refine blk_drewN ?_ _ | refine blk_drew ?_ | refine blk_alloc ?_ _)); exact BK550.out)) : gb550 ≠ gb561)); have n11_ := Aside0.mk ((by rw [hg]; exact Nat.ne_of_gt (blk_lt (g := gb550) (o := .cells #[.string a1_0, .int .i64 a1_1, .bool a1_2, .int .i64 a1_3, .bool a1_4] 48 (0, 0)) (by (with_reducible repeat (first | refine blk_drewN ?_ _ | refine blk_drew ?_ | refine blk_alloc ?_ _)); exact BK550.out)) : gb561 ≠ gb550)); clear HO556; clear HO559; clear BK549; clear BK550; clear HB; have HO556 := n0_; have HO559 := n1_; have BK549 := n2_; have BK550 := n3_; have HB := n4_; have BK561 := n5_; have GW561 := n6_; have GE561 := n7_; have NB549_561 := n8_; have NB561_549 := n9_; have NB550_561 := n10_; have NB561_550 := n11_; clear n0_ n1_ n2_ n3_ n4_ n5_ n6_ n7_ n8_ n9_ n10_ n11_; clear hb hbox hg; have hnb13 := NB561_549.out; have hnc13 := NB549_561.out; have hnb14 := NB561_550.out; have hnc14 := NB550_561.out; have hcz15_0 : w12.cell? ⟨gb561, 0, none⟩ = some (.int .i64 0) := (blk_cell BK561.out 0).trans rfl; have hcz15_1 : w12.cell? ⟨gb561, 1, none⟩ = some (.int .i64 0) := (blk_cell BK561.out 1).trans rfl; have hcz15_2 : w12.cell? ⟨gb561, 2, none⟩ = some (.string (⟨#[]⟩ : ByteArray)) := (blk_cell BK561.out 2).trans rfl; have hcz15_3 : w12.cell? ⟨gb561, 3, none⟩ = some (.slice none 0 0) := (blk_cell BK561.out 3).trans rfl; have hcz15_4 : w12.cell? ⟨gb561, 4, none⟩ = some (.slice none 0 0) := (blk_cell BK561.out 4).trans rfl; have hfz15_0 := blk_frozen BK561.out 0; have hfz15_1 := blk_frozen BK561.out 1; have hfz15_2 := blk_frozen BK561.out 2; have hfz15_3 := blk_frozen BK561.out 3; have hfz15_4 := blk_frozen BK561.out 4; obtain ⟨Ao16, co16, eo16⟩ := Kd.V_slice HO556.out; subst eo16; obtain ⟨Ao17, co17, eo17⟩ := Kd.V_slice HO559.out; subst eo17))
    (try simp only [Act.put, List.setIfInBounds_toArray, List.set_cons_zero, List.set_cons_succ])
    go_cut [27] (fun v27 wc => ∃ (kq : Nat) (x27_4 : Bool), v27 = .bool x27_4 ∧ Aside0 (sealringref29_One.j0 kq x27_4 a1_0 a1_1 a1_2 a1_3 a1_4 t551 t552 t553 t554 t557 = some r) ∧ Aside0 (kq ≤ k) ∧ Aside0 (Kd.V Kd.string 9 wc w.heap.size (fun k_ => k_ ≠ gb549 ∧ k_ ≠ gb550 ∧ k_ ≠ gb561) (.slice Ao16 t554.length co16) t554) ∧ Aside0 (Kd.V k25 25 wc w.heap.size (fun k_ => k_ ≠ gb549 ∧ k_ ≠ gb550 ∧ k_ ≠ gb561) (.slice Ao17 t557.length co17) t557) ∧ Aside0 (wc.heap[gb549]? = some (.cells #[.int .i64 a0_0, .int .i64 a0_1, .string a0_2, (.slice A0_3 l0_3.length c0_3), (.slice A0_4 l0_4.length c0_4)] 25 (0, 0))) ∧ Aside0 (wc.heap[gb550]? = some (.cells #[.string a1_0, .int .i64 a1_1, .bool a1_2, .int .i64 a1_3, .bool a1_4] 48 (0, 0))) ∧ Aside0 (wc.heap[gb561]? = some (.cells #[.int .i64 t551, .int .i64 t552, .string t553, (.slice Ao16 t554.length co16), (.slice Ao17 t557.length co17)] 25 (0, 0))) ∧ Aside0 (Below w.heap.size w wc))
    case first =>
      have H := HC5.out
      clear HC5
      by_cases c18 : a1_1 = 0
      · rw [if_pos c18] at H
        have c18b0 : (a1_1 == 0) = true := beq_iff_eq.mpr c18
        have c18b1 : (a1_1 != 0) = false := bne_eq_false_iff_eq.mpr c18
        clear c18
        (first | rw [c18b0] | (simp only [i64_w, i32_w]; rw [c18b0]) | skip)
        have H' := Aside0.mk H
        clear H
        have hnb19 := NB550_549.out
        have hnc19 := NB549_550.out
        have hnb20 := NB550_561.out
        have hnc20 := NB561_550.out
        have hcz21_0 : w12.cell? ⟨gb550, 0, none⟩ = some (.string a1_0) := (blk_cell BK550.out 0).trans rfl
        have hcz21_1 : w12.cell? ⟨gb550, 1, none⟩ = some (.int .i64 a1_1) := (blk_cell BK550.out 1).trans rfl
        have hcz21_2 : w12.cell? ⟨gb550, 2, none⟩ = some (.bool a1_2) := (blk_cell BK550.out 2).trans rfl
        have hcz21_3 : w12.cell? ⟨gb550, 3, none⟩ = some (.int .i64 a1_3) := (blk_cell BK550.out 3).trans rfl
        have hcz21_4 : w12.cell? ⟨gb550, 4, none⟩ = some (.bool a1_4) := (blk_cell BK550.out 4).trans rfl
        have hfz21_0 := blk_frozen BK550.out 0
        have hfz21_1 := blk_frozen BK550.out 1
        have hfz21_2 := blk_frozen BK550.out 2
        have hfz21_3 := blk_frozen BK550.out 3
        have hfz21_4 := blk_frozen BK550.out 4
        go_wp2
        go_meet
        case rel => exact ⟨_, (false), (by first | rfl | (simp; done) | (simp [*]; done)), (by first | with_reducible exact H' | exact H' | (subst_vars; exact H')), ⟨by first | omega | exact Nat.le_refl _⟩, ⟨by (with_reducible repeat (first | apply Kd.V_alloc | apply Kd.V_drewN | apply Kd.V_drew)); exact Kd.V_mono (Kd.V_far (p := ⟨gb561, 4, none⟩) (Kd.V_far (p := ⟨gb561, 3, none⟩) (Kd.V_far (p := ⟨gb561, 2, none⟩) (Kd.V_far (p := ⟨gb561, 1, none⟩) (Kd.V_far (p := ⟨gb561, 0, none⟩) (Kd.V_mono HO556.out (fun k_ hk => (⟨hk, hk.2⟩ : _ ∧ k_ ≠ gb561))) (fun _ hk => hk.2) (.int .i64 t551)) (fun _ hk => hk.2) (.int .i64 t552)) (fun _ hk => hk.2) (.string t553)) (fun _ hk => hk.2) (.slice Ao16 t554.length co16)) (fun _ hk => hk.2) (.slice Ao17 t557.length co17)) (fun _ hk => ⟨hk.1.1.1, ⟨hk.1.1.2, hk.1.2⟩⟩)⟩, ⟨by (with_reducible repeat (first | apply Kd.V_alloc | apply Kd.V_drewN | apply Kd.V_drew)); exact Kd.V_mono (Kd.V_far (p := ⟨gb561, 4, none⟩) (Kd.V_far (p := ⟨gb561, 3, none⟩) (Kd.V_far (p := ⟨gb561, 2, none⟩) (Kd.V_far (p := ⟨gb561, 1, none⟩) (Kd.V_far (p := ⟨gb561, 0, none⟩) (Kd.V_mono HO559.out (fun k_ hk => (⟨hk, hk.2⟩ : _ ∧ k_ ≠ gb561))) (fun _ hk => hk.2) (.int .i64 t551)) (fun _ hk => hk.2) (.int .i64 t552)) (fun _ hk => hk.2) (.string t553)) (fun _ hk => hk.2) (.slice Ao16 t554.length co16)) (fun _ hk => hk.2) (.slice Ao17 t557.length co17)) (fun _ hk => ⟨hk.1.1.1, ⟨hk.1.1.2, hk.1.2⟩⟩)⟩, ⟨by (with_reducible repeat (first | refine blk_drewN ?_ _ | refine blk_drew ?_ | refine blk_alloc ?_ _)); refine blk_far ?_ NB549_561.out _; (with_reducible repeat (first | refine blk_drewN ?_ _ | refine blk_drew ?_ | refine blk_alloc ?_ _)); refine blk_far ?_ NB549_561.out _; (with_reducible repeat (first | refine blk_drewN ?_ _ | refine blk_drew ?_ | refine blk_alloc ?_ _)); refine blk_far ?_ NB549_561.out _; (with_reducible repeat (first | refine blk_drewN ?_ _ | refine blk_drew ?_ | refine blk_alloc ?_ _)); refine blk_far ?_ NB549_561.out _; (with_reducible repeat (first | refine blk_drewN ?_ _ | refine blk_drew ?_ | refine blk_alloc ?_ _)); refine blk_far ?_ NB549_561.out _; (with_reducible repeat (first | refine blk_drewN ?_ _ | refine blk_drew ?_ | refine blk_alloc ?_ _)); exact BK549.out⟩, ⟨by (with_reducible repeat (first | refine blk_drewN ?_ _ | refine blk_drew ?_ | refine blk_alloc ?_ _)); refine blk_far ?_ NB550_561.out _; (with_reducible repeat (first | refine blk_drewN ?_ _ | refine blk_drew ?_ | refine blk_alloc ?_ _)); refine blk_far ?_ NB550_561.out _; (with_reducible repeat (first | refine blk_drewN ?_ _ | refine blk_drew ?_ | refine blk_alloc ?_ _)); refine blk_far ?_ NB550_561.out _; (with_reducible repeat (first | refine blk_drewN ?_ _ | refine blk_drew ?_ | refine blk_alloc ?_ _)); refine blk_far ?_ NB550_561.out _; (with_reducible repeat (first | refine blk_drewN ?_ _ | refine blk_drew ?_ | refine blk_alloc ?_ _)); refine blk_far ?_ NB550_561.out _; (with_reducible repeat (first | refine blk_drewN ?_ _ | refine blk_drew ?_ | refine blk_alloc ?_ _)); exact BK550.out⟩, ⟨by (with_reducible repeat (first | refine blk_drewN ?_ _ | refine blk_drew ?_ | refine blk_alloc ?_ _)); refine blk_put (cs := #[.int .i64 t551, .int .i64 t552, .string t553, .slice Ao16 t554.length co16, .slice none 0 0]) ?_ 4 _ rfl; (with_reducible repeat (first | refine blk_drewN ?_ _ | refine blk_drew ?_ | refine blk_alloc ?_ _)); refine blk_put (cs := #[.int .i64 t551, .int .i64 t552, .string t553, .slice none 0 0, .slice none 0 0]) ?_ 3 _ rfl; (with_reducible repeat (first | refine blk_drewN ?_ _ | refine blk_drew ?_ | refine blk_alloc ?_ _)); refine blk_put (cs := #[.int .i64 t551, .int .i64 t552, .string (⟨#[]⟩ : ByteArray), .slice none 0 0, .slice none 0 0]) ?_ 2 _ rfl; (with_reducible repeat (first | refine blk_drewN ?_ _ | refine blk_drew ?_ | refine blk_alloc ?_ _)); refine blk_put (cs := #[.int .i64 t551, .int .i64 0, .string (⟨#[]⟩ : ByteArray), .slice none 0 0, .slice none 0 0]) ?_ 1 _ rfl; (with_reducible repeat (first | refine blk_drewN ?_ _ | refine blk_drew ?_ | refine blk_alloc ?_ _)); refine blk_put (cs := #[.int .i64 0, .int .i64 0, .string (⟨#[]⟩ : ByteArray), .slice none 0 0, .slice none 0 0]) ?_ 0 _ rfl; (with_reducible repeat (first | refine blk_drewN ?_ _ | refine blk_drew ?_ | refine blk_alloc ?_ _)); exact BK561.out⟩, ⟨by repeat (first | (with_reducible first | exact HB.out | apply below_alloc | apply pw_below_drewN | apply below_drew1 | refine below_set ?_ GE549.out | refine below_set ?_ GE550.out | refine below_set ?_ GE561.out) | exact HB.out)⟩⟩
      · rw [if_neg c18] at H
        have c18b0 : (a1_1 == 0) = false := beq_eq_false_iff_ne.mpr c18
        have c18b1 : (a1_1 != 0) = true := bne_iff_ne.mpr c18
        (first | rw [c18b0] | (simp only [i64_w, i32_w]; rw [c18b0]) | skip)
        have H' := Aside0.mk H
        clear H
        have hnb22 := NB550_549.out
        have hnc22 := NB549_550.out
        have hnb23 := NB550_561.out
        have hnc23 := NB561_550.out
        have hcz24_0 : w12.cell? ⟨gb550, 0, none⟩ = some (.string a1_0) := (blk_cell BK550.out 0).trans rfl
        have hcz24_1 : w12.cell? ⟨gb550, 1, none⟩ = some (.int .i64 a1_1) := (blk_cell BK550.out 1).trans rfl
        have hcz24_2 : w12.cell? ⟨gb550, 2, none⟩ = some (.bool a1_2) := (blk_cell BK550.out 2).trans rfl
        have hcz24_3 : w12.cell? ⟨gb550, 3, none⟩ = some (.int .i64 a1_3) := (blk_cell BK550.out 3).trans rfl
        have hcz24_4 : w12.cell? ⟨gb550, 4, none⟩ = some (.bool a1_4) := (blk_cell BK550.out 4).trans rfl
        have hfz24_0 := blk_frozen BK550.out 0
        have hfz24_1 := blk_frozen BK550.out 1
        have hfz24_2 := blk_frozen BK550.out 2
        have hfz24_3 := blk_frozen BK550.out 3
        have hfz24_4 := blk_frozen BK550.out 4
        have hnb25 := NB561_549.out
        have hnc25 := NB549_561.out
        have hcz26_0 : w12.cell? ⟨gb561, 0, none⟩ = some (.int .i64 0) := (blk_cell BK561.out 0).trans rfl
        have hcz26_1 : w12.cell? ⟨gb561, 1, none⟩ = some (.int .i64 0) := (blk_cell BK561.out 1).trans rfl
        have hcz26_2 : w12.cell? ⟨gb561, 2, none⟩ = some (.string (⟨#[]⟩ : ByteArray)) := (blk_cell BK561.out 2).trans rfl
        have hcz26_3 : w12.cell? ⟨gb561, 3, none⟩ = some (.slice none 0 0) := (blk_cell BK561.out 3).trans rfl
        have hcz26_4 : w12.cell? ⟨gb561, 4, none⟩ = some (.slice none 0 0) := (blk_cell BK561.out 4).trans rfl
        have hfz26_0 := blk_frozen BK561.out 0
        have hfz26_1 := blk_frozen BK561.out 1
        have hfz26_2 := blk_frozen BK561.out 2
        have hfz26_3 := blk_frozen BK561.out 3
        have hfz26_4 := blk_frozen BK561.out 4
        go_wp2
        go_meet
        case rel => exact ⟨_, ((t551 != a1_1)), (by first | rfl | (simp; done) | (simp [*]; done)), (by first | with_reducible exact H' | exact H' | (subst_vars; exact H')), ⟨by first | omega | exact Nat.le_refl _⟩, ⟨by (with_reducible repeat (first | apply Kd.V_alloc | apply Kd.V_drewN | apply Kd.V_drew)); exact Kd.V_mono (Kd.V_far (p := ⟨gb561, 4, none⟩) (Kd.V_far (p := ⟨gb561, 3, none⟩) (Kd.V_far (p := ⟨gb561, 2, none⟩) (Kd.V_far (p := ⟨gb561, 1, none⟩) (Kd.V_far (p := ⟨gb561, 0, none⟩) (Kd.V_mono HO556.out (fun k_ hk => (⟨hk, hk.2⟩ : _ ∧ k_ ≠ gb561))) (fun _ hk => hk.2) (.int .i64 t551)) (fun _ hk => hk.2) (.int .i64 t552)) (fun _ hk => hk.2) (.string t553)) (fun _ hk => hk.2) (.slice Ao16 t554.length co16)) (fun _ hk => hk.2) (.slice Ao17 t557.length co17)) (fun _ hk => ⟨hk.1.1.1, ⟨hk.1.1.2, hk.1.2⟩⟩)⟩, ⟨by (with_reducible repeat (first | apply Kd.V_alloc | apply Kd.V_drewN | apply Kd.V_drew)); exact Kd.V_mono (Kd.V_far (p := ⟨gb561, 4, none⟩) (Kd.V_far (p := ⟨gb561, 3, none⟩) (Kd.V_far (p := ⟨gb561, 2, none⟩) (Kd.V_far (p := ⟨gb561, 1, none⟩) (Kd.V_far (p := ⟨gb561, 0, none⟩) (Kd.V_mono HO559.out (fun k_ hk => (⟨hk, hk.2⟩ : _ ∧ k_ ≠ gb561))) (fun _ hk => hk.2) (.int .i64 t551)) (fun _ hk => hk.2) (.int .i64 t552)) (fun _ hk => hk.2) (.string t553)) (fun _ hk => hk.2) (.slice Ao16 t554.length co16)) (fun _ hk => hk.2) (.slice Ao17 t557.length co17)) (fun _ hk => ⟨hk.1.1.1, ⟨hk.1.1.2, hk.1.2⟩⟩)⟩, ⟨by (with_reducible repeat (first | refine blk_drewN ?_ _ | refine blk_drew ?_ | refine blk_alloc ?_ _)); refine blk_far ?_ NB549_561.out _; (with_reducible repeat (first | refine blk_drewN ?_ _ | refine blk_drew ?_ | refine blk_alloc ?_ _)); refine blk_far ?_ NB549_561.out _; (with_reducible repeat (first | refine blk_drewN ?_ _ | refine blk_drew ?_ | refine blk_alloc ?_ _)); refine blk_far ?_ NB549_561.out _; (with_reducible repeat (first | refine blk_drewN ?_ _ | refine blk_drew ?_ | refine blk_alloc ?_ _)); refine blk_far ?_ NB549_561.out _; (with_reducible repeat (first | refine blk_drewN ?_ _ | refine blk_drew ?_ | refine blk_alloc ?_ _)); refine blk_far ?_ NB549_561.out _; (with_reducible repeat (first | refine blk_drewN ?_ _ | refine blk_drew ?_ | refine blk_alloc ?_ _)); exact BK549.out⟩, ⟨by (with_reducible repeat (first | refine blk_drewN ?_ _ | refine blk_drew ?_ | refine blk_alloc ?_ _)); refine blk_far ?_ NB550_561.out _; (with_reducible repeat (first | refine blk_drewN ?_ _ | refine blk_drew ?_ | refine blk_alloc ?_ _)); refine blk_far ?_ NB550_561.out _; (with_reducible repeat (first | refine blk_drewN ?_ _ | refine blk_drew ?_ | refine blk_alloc ?_ _)); refine blk_far ?_ NB550_561.out _; (with_reducible repeat (first | refine blk_drewN ?_ _ | refine blk_drew ?_ | refine blk_alloc ?_ _)); refine blk_far ?_ NB550_561.out _; (with_reducible repeat (first | refine blk_drewN ?_ _ | refine blk_drew ?_ | refine blk_alloc ?_ _)); refine blk_far ?_ NB550_561.out _; (with_reducible repeat (first | refine blk_drewN ?_ _ | refine blk_drew ?_ | refine blk_alloc ?_ _)); exact BK550.out⟩, ⟨by (with_reducible repeat (first | refine blk_drewN ?_ _ | refine blk_drew ?_ | refine blk_alloc ?_ _)); refine blk_put (cs := #[.int .i64 t551, .int .i64 t552, .string t553, .slice Ao16 t554.length co16, .slice none 0 0]) ?_ 4 _ rfl; (with_reducible repeat (first | refine blk_drewN ?_ _ | refine blk_drew ?_ | refine blk_alloc ?_ _)); refine blk_put (cs := #[.int .i64 t551, .int .i64 t552, .string t553, .slice none 0 0, .slice none 0 0]) ?_ 3 _ rfl; (with_reducible repeat (first | refine blk_drewN ?_ _ | refine blk_drew ?_ | refine blk_alloc ?_ _)); refine blk_put (cs := #[.int .i64 t551, .int .i64 t552, .string (⟨#[]⟩ : ByteArray), .slice none 0 0, .slice none 0 0]) ?_ 2 _ rfl; (with_reducible repeat (first | refine blk_drewN ?_ _ | refine blk_drew ?_ | refine blk_alloc ?_ _)); refine blk_put (cs := #[.int .i64 t551, .int .i64 0, .string (⟨#[]⟩ : ByteArray), .slice none 0 0, .slice none 0 0]) ?_ 1 _ rfl; (with_reducible repeat (first | refine blk_drewN ?_ _ | refine blk_drew ?_ | refine blk_alloc ?_ _)); refine blk_put (cs := #[.int .i64 0, .int .i64 0, .string (⟨#[]⟩ : ByteArray), .slice none 0 0, .slice none 0 0]) ?_ 0 _ rfl; (with_reducible repeat (first | refine blk_drewN ?_ _ | refine blk_drew ?_ | refine blk_alloc ?_ _)); exact BK561.out⟩, ⟨by repeat (first | (with_reducible first | exact HB.out | apply below_alloc | apply pw_below_drewN | apply below_drew1 | refine below_set ?_ GE549.out | refine below_set ?_ GE550.out | refine below_set ?_ GE561.out) | exact HB.out)⟩⟩
    case rest =>
      clear HC5
      try clear c1
      try clear c2
      try clear p2
      try clear c4
      try clear c6
      try clear c8
      try clear c13
      try clear c14
      try clear c18
      try clear c18b0
      try clear c18b1
      try clear c19
      try clear c20
      try clear c22
      try clear c23
      try clear c25
      try clear hcz10_0
      try clear hcz10_1
      try clear hcz10_2
      try clear hcz10_3
      try clear hcz10_4
      try clear hcz15_0
      try clear hcz15_1
      try clear hcz15_2
      try clear hcz15_3
      try clear hcz15_4
      try clear hcz21_0
      try clear hcz21_1
      try clear hcz21_2
      try clear hcz21_3
      try clear hcz21_4
      try clear hcz24_0
      try clear hcz24_1
      try clear hcz24_2
      try clear hcz24_3
      try clear hcz24_4
      try clear hcz26_0
      try clear hcz26_1
      try clear hcz26_2
      try clear hcz26_3
      try clear hcz26_4
      try clear hcz9_0
      try clear hcz9_1
      try clear hcz9_2
      try clear hcz9_3
      try clear hcz9_4
      try clear hfz10_0
      try clear hfz10_1
      try clear hfz10_2
      try clear hfz10_3
      try clear hfz10_4
      try clear hfz15_0
      try clear hfz15_1
      try clear hfz15_2
      try clear hfz15_3
      try clear hfz15_4
      try clear hfz21_0
      try clear hfz21_1
      try clear hfz21_2
      try clear hfz21_3
      try clear hfz21_4
      try clear hfz24_0
      try clear hfz24_1
      try clear hfz24_2
      try clear hfz24_3
      try clear hfz24_4
      try clear hfz26_0
      try clear hfz26_1
      try clear hfz26_2
      try clear hfz26_3
      try clear hfz26_4
      try clear hfz9_0
      try clear hfz9_1
      try clear hfz9_2
      try clear hfz9_3
      try clear hfz9_4
      obtain ⟨kq, x27_4, rfl, HA, HJ4, HO_562003, HO_562004, BK549, BK550, BK561, HB⟩ := hcut
      cases kq with
      | zero => exact absurd HA.out (by simp [sealringref29_One.j0])
      | succ kj4 =>
        have H := HA.out
        clear HA
        simp only [sealringref29_One.j0] at H
        by_cases c27 : x27_4 = true
        · subst c27
          have H1 : (some 16) = some r := by rw [if_pos rfl] at H; exact H
          clear H
          have H := H1
          clear H1
          obtain rfl := Option.some.inj H
          go_wp2
          go_ret
          exact ⟨by first | rfl | (simp [errW_none, errW_some] <;> rfl) | (simp [*, errW_none, errW_some] <;> rfl), by repeat (first | (with_reducible first | exact HB.out | apply below_alloc | apply pw_below_drewN | apply below_drew1 | refine below_set ?_ GE549.out | refine below_set ?_ GE550.out | refine below_set ?_ GE561.out) | exact HB.out)⟩
        · replace c27 := Bool.eq_false_iff.mpr c27
          subst c27
          have H1 : (if a1_3 > 0 then (if t551 = 4 then (sealringref29_One.j1 kj4 (decide ((t553.size : Int) > a1_3)) a1_0 a1_1 a1_2 a1_3 a1_4 t551 t552 t553 t554 t557) else (sealringref29_One.j1 kj4 false a1_0 a1_1 a1_2 a1_3 a1_4 t551 t552 t553 t554 t557)) else (sealringref29_One.j1 kj4 false a1_0 a1_1 a1_2 a1_3 a1_4 t551 t552 t553 t554 t557)) = some r := by rw [if_neg (show ¬ (false = true) by decide)] at H; exact H
          clear H
          have H := H1
          clear H1
          have HC28 := Aside0.mk H
          clear H
          go_upto_region 8 with (fail)
          go_cut [43] (fun v43 wc => ∃ (kq : Nat) (x43_27 : Bool), v43 = .bool x43_27 ∧ Aside0 (sealringref29_One.j1 kq x43_27 a1_0 a1_1 a1_2 a1_3 a1_4 t551 t552 t553 t554 t557 = some r) ∧ Aside0 (kq ≤ kj4) ∧ Aside0 (Kd.V Kd.string 9 wc w.heap.size (fun k_ => k_ ≠ gb549 ∧ k_ ≠ gb550 ∧ k_ ≠ gb561) (.slice Ao16 t554.length co16) t554) ∧ Aside0 (Kd.V k25 25 wc w.heap.size (fun k_ => k_ ≠ gb549 ∧ k_ ≠ gb550 ∧ k_ ≠ gb561) (.slice Ao17 t557.length co17) t557) ∧ Aside0 (wc.heap[gb549]? = some (.cells #[.int .i64 a0_0, .int .i64 a0_1, .string a0_2, (.slice A0_3 l0_3.length c0_3), (.slice A0_4 l0_4.length c0_4)] 25 (0, 0))) ∧ Aside0 (wc.heap[gb550]? = some (.cells #[.string a1_0, .int .i64 a1_1, .bool a1_2, .int .i64 a1_3, .bool a1_4] 48 (0, 0))) ∧ Aside0 (wc.heap[gb561]? = some (.cells #[.int .i64 t551, .int .i64 t552, .string t553, (.slice Ao16 t554.length co16), (.slice Ao17 t557.length co17)] 25 (0, 0))) ∧ Aside0 (Below w.heap.size w wc))
          case first =>
            have H := HC28.out
            clear HC28
            by_cases c29 : a1_3 > 0
            · rw [if_pos c29] at H
              have c29b0 : decide (0 < a1_3) = true := decide_eq_true c29
              clear c29
              (first | rw [c29b0] | (simp only [i64_w, i32_w]; rw [c29b0]) | skip)
              by_cases c30 : t551 = 4
              · rw [if_pos c30] at H
                have c30b0 : (t551 == 4) = true := beq_iff_eq.mpr c30
                have c30b1 : (t551 != 4) = false := bne_eq_false_iff_eq.mpr c30
                clear c30
                have H' := Aside0.mk H
                clear H
                have hnb31 := NB550_549.out
                have hnc31 := NB549_550.out
                have hnb32 := NB550_561.out
                have hnc32 := NB561_550.out
                have hcz33_0 : wc.cell? ⟨gb550, 0, none⟩ = some (.string a1_0) := (blk_cell BK550.out 0).trans rfl
                have hcz33_1 : wc.cell? ⟨gb550, 1, none⟩ = some (.int .i64 a1_1) := (blk_cell BK550.out 1).trans rfl
                have hcz33_2 : wc.cell? ⟨gb550, 2, none⟩ = some (.bool a1_2) := (blk_cell BK550.out 2).trans rfl
                have hcz33_3 : wc.cell? ⟨gb550, 3, none⟩ = some (.int .i64 a1_3) := (blk_cell BK550.out 3).trans rfl
                have hcz33_4 : wc.cell? ⟨gb550, 4, none⟩ = some (.bool a1_4) := (blk_cell BK550.out 4).trans rfl
                have hfz33_0 := blk_frozen BK550.out 0
                have hfz33_1 := blk_frozen BK550.out 1
                have hfz33_2 := blk_frozen BK550.out 2
                have hfz33_3 := blk_frozen BK550.out 3
                have hfz33_4 := blk_frozen BK550.out 4
                have hnb34 := NB561_549.out
                have hnc34 := NB549_561.out
                have hcz35_0 : wc.cell? ⟨gb561, 0, none⟩ = some (.int .i64 t551) := (blk_cell BK561.out 0).trans rfl
                have hcz35_1 : wc.cell? ⟨gb561, 1, none⟩ = some (.int .i64 t552) := (blk_cell BK561.out 1).trans rfl
                have hcz35_2 : wc.cell? ⟨gb561, 2, none⟩ = some (.string t553) := (blk_cell BK561.out 2).trans rfl
                have hcz35_3 : wc.cell? ⟨gb561, 3, none⟩ = some (.slice Ao16 t554.length co16) := (blk_cell BK561.out 3).trans rfl
                have hcz35_4 : wc.cell? ⟨gb561, 4, none⟩ = some (.slice Ao17 t557.length co17) := (blk_cell BK561.out 4).trans rfl
                have hfz35_0 := blk_frozen BK561.out 0
                have hfz35_1 := blk_frozen BK561.out 1
                have hfz35_2 := blk_frozen BK561.out 2
                have hfz35_3 := blk_frozen BK561.out 3
                have hfz35_4 := blk_frozen BK561.out 4
                go_wp2
                go_meet
                case rel => exact ⟨_, (decide ((t553.size : Int) > a1_3)), (by first | rfl | (simp; done) | (simp [*]; done)), (by first | with_reducible exact H' | exact H' | (subst_vars; exact H')), ⟨by have := HJ4.out; first | omega | exact Nat.le_refl _⟩, ⟨by (with_reducible repeat (first | apply Kd.V_alloc | apply Kd.V_drewN | apply Kd.V_drew)); exact HO_562003.out⟩, ⟨by (with_reducible repeat (first | apply Kd.V_alloc | apply Kd.V_drewN | apply Kd.V_drew)); exact HO_562004.out⟩, ⟨by (with_reducible repeat (first | refine blk_drewN ?_ _ | refine blk_drew ?_ | refine blk_alloc ?_ _)); exact BK549.out⟩, ⟨by (with_reducible repeat (first | refine blk_drewN ?_ _ | refine blk_drew ?_ | refine blk_alloc ?_ _)); exact BK550.out⟩, ⟨by (with_reducible repeat (first | refine blk_drewN ?_ _ | refine blk_drew ?_ | refine blk_alloc ?_ _)); exact BK561.out⟩, ⟨by repeat (first | (with_reducible first | exact HB.out | apply below_alloc | apply pw_below_drewN | apply below_drew1 | refine below_set ?_ GE549.out | refine below_set ?_ GE550.out | refine below_set ?_ GE561.out) | exact HB.out)⟩⟩
              · rw [if_neg c30] at H
                have c30b0 : (t551 == 4) = false := beq_eq_false_iff_ne.mpr c30
                have c30b1 : (t551 != 4) = true := bne_iff_ne.mpr c30
                have H' := Aside0.mk H
                clear H
                have hnb36 := NB550_549.out
                have hnc36 := NB549_550.out
                have hnb37 := NB550_561.out
                have hnc37 := NB561_550.out
                have hcz38_0 : wc.cell? ⟨gb550, 0, none⟩ = some (.string a1_0) := (blk_cell BK550.out 0).trans rfl
                have hcz38_1 : wc.cell? ⟨gb550, 1, none⟩ = some (.int .i64 a1_1) := (blk_cell BK550.out 1).trans rfl
                have hcz38_2 : wc.cell? ⟨gb550, 2, none⟩ = some (.bool a1_2) := (blk_cell BK550.out 2).trans rfl
                have hcz38_3 : wc.cell? ⟨gb550, 3, none⟩ = some (.int .i64 a1_3) := (blk_cell BK550.out 3).trans rfl
                have hcz38_4 : wc.cell? ⟨gb550, 4, none⟩ = some (.bool a1_4) := (blk_cell BK550.out 4).trans rfl
                have hfz38_0 := blk_frozen BK550.out 0
                have hfz38_1 := blk_frozen BK550.out 1
                have hfz38_2 := blk_frozen BK550.out 2
                have hfz38_3 := blk_frozen BK550.out 3
                have hfz38_4 := blk_frozen BK550.out 4
                have hnb39 := NB561_549.out
                have hnc39 := NB549_561.out
                have hcz40_0 : wc.cell? ⟨gb561, 0, none⟩ = some (.int .i64 t551) := (blk_cell BK561.out 0).trans rfl
                have hcz40_1 : wc.cell? ⟨gb561, 1, none⟩ = some (.int .i64 t552) := (blk_cell BK561.out 1).trans rfl
                have hcz40_2 : wc.cell? ⟨gb561, 2, none⟩ = some (.string t553) := (blk_cell BK561.out 2).trans rfl
                have hcz40_3 : wc.cell? ⟨gb561, 3, none⟩ = some (.slice Ao16 t554.length co16) := (blk_cell BK561.out 3).trans rfl
                have hcz40_4 : wc.cell? ⟨gb561, 4, none⟩ = some (.slice Ao17 t557.length co17) := (blk_cell BK561.out 4).trans rfl
                have hfz40_0 := blk_frozen BK561.out 0
                have hfz40_1 := blk_frozen BK561.out 1
                have hfz40_2 := blk_frozen BK561.out 2
                have hfz40_3 := blk_frozen BK561.out 3
                have hfz40_4 := blk_frozen BK561.out 4
                go_wp2
                go_meet
                case rel => exact ⟨_, (false), (by first | rfl | (simp; done) | (simp [*]; done)), (by first | with_reducible exact H' | exact H' | (subst_vars; exact H')), ⟨by have := HJ4.out; first | omega | exact Nat.le_refl _⟩, ⟨by (with_reducible repeat (first | apply Kd.V_alloc | apply Kd.V_drewN | apply Kd.V_drew)); exact HO_562003.out⟩, ⟨by (with_reducible repeat (first | apply Kd.V_alloc | apply Kd.V_drewN | apply Kd.V_drew)); exact HO_562004.out⟩, ⟨by (with_reducible repeat (first | refine blk_drewN ?_ _ | refine blk_drew ?_ | refine blk_alloc ?_ _)); exact BK549.out⟩, ⟨by (with_reducible repeat (first | refine blk_drewN ?_ _ | refine blk_drew ?_ | refine blk_alloc ?_ _)); exact BK550.out⟩, ⟨by (with_reducible repeat (first | refine blk_drewN ?_ _ | refine blk_drew ?_ | refine blk_alloc ?_ _)); exact BK561.out⟩, ⟨by repeat (first | (with_reducible first | exact HB.out | apply below_alloc | apply pw_below_drewN | apply below_drew1 | refine below_set ?_ GE549.out | refine below_set ?_ GE550.out | refine below_set ?_ GE561.out) | exact HB.out)⟩⟩
            · rw [if_neg c29] at H
              have c29b0 : decide (0 < a1_3) = false := decide_eq_false c29
              clear c29
              (first | rw [c29b0] | (simp only [i64_w, i32_w]; rw [c29b0]) | skip)
              have H' := Aside0.mk H
              clear H
              have hnb41 := NB550_549.out
              have hnc41 := NB549_550.out
              have hnb42 := NB550_561.out
              have hnc42 := NB561_550.out
              have hcz43_0 : wc.cell? ⟨gb550, 0, none⟩ = some (.string a1_0) := (blk_cell BK550.out 0).trans rfl
              have hcz43_1 : wc.cell? ⟨gb550, 1, none⟩ = some (.int .i64 a1_1) := (blk_cell BK550.out 1).trans rfl
              have hcz43_2 : wc.cell? ⟨gb550, 2, none⟩ = some (.bool a1_2) := (blk_cell BK550.out 2).trans rfl
              have hcz43_3 : wc.cell? ⟨gb550, 3, none⟩ = some (.int .i64 a1_3) := (blk_cell BK550.out 3).trans rfl
              have hcz43_4 : wc.cell? ⟨gb550, 4, none⟩ = some (.bool a1_4) := (blk_cell BK550.out 4).trans rfl
              have hfz43_0 := blk_frozen BK550.out 0
              have hfz43_1 := blk_frozen BK550.out 1
              have hfz43_2 := blk_frozen BK550.out 2
              have hfz43_3 := blk_frozen BK550.out 3
              have hfz43_4 := blk_frozen BK550.out 4
              go_wp2
              go_meet
              case rel => exact ⟨_, (false), (by first | rfl | (simp; done) | (simp [*]; done)), (by first | with_reducible exact H' | exact H' | (subst_vars; exact H')), ⟨by have := HJ4.out; first | omega | exact Nat.le_refl _⟩, ⟨by (with_reducible repeat (first | apply Kd.V_alloc | apply Kd.V_drewN | apply Kd.V_drew)); exact HO_562003.out⟩, ⟨by (with_reducible repeat (first | apply Kd.V_alloc | apply Kd.V_drewN | apply Kd.V_drew)); exact HO_562004.out⟩, ⟨by (with_reducible repeat (first | refine blk_drewN ?_ _ | refine blk_drew ?_ | refine blk_alloc ?_ _)); exact BK549.out⟩, ⟨by (with_reducible repeat (first | refine blk_drewN ?_ _ | refine blk_drew ?_ | refine blk_alloc ?_ _)); exact BK550.out⟩, ⟨by (with_reducible repeat (first | refine blk_drewN ?_ _ | refine blk_drew ?_ | refine blk_alloc ?_ _)); exact BK561.out⟩, ⟨by repeat (first | (with_reducible first | exact HB.out | apply below_alloc | apply pw_below_drewN | apply below_drew1 | refine below_set ?_ GE549.out | refine below_set ?_ GE550.out | refine below_set ?_ GE561.out) | exact HB.out)⟩⟩
          case rest =>
            clear HC28
            try clear c1
            try clear c2
            try clear p2
            try clear c3
            try clear c4
            try clear c6
            try clear c8
            try clear c13
            try clear c14
            try clear c18
            try clear c18b0
            try clear c18b1
            try clear c19
            try clear c20
            try clear c22
            try clear c23
            try clear c25
            try clear c27
            try clear c29
            try clear c29b0
            try clear c30
            try clear c30b0
            try clear c30b1
            try clear c31
            try clear c32
            try clear c34
            try clear c36
            try clear c37
            try clear c39
            try clear c41
            try clear c42
            try clear hcz10_0
            try clear hcz10_1
            try clear hcz10_2
            try clear hcz10_3
            try clear hcz10_4
            try clear hcz15_0
            try clear hcz15_1
            try clear hcz15_2
            try clear hcz15_3
            try clear hcz15_4
            try clear hcz21_0
            try clear hcz21_1
            try clear hcz21_2
            try clear hcz21_3
            try clear hcz21_4
            try clear hcz24_0
            try clear hcz24_1
            try clear hcz24_2
            try clear hcz24_3
            try clear hcz24_4
            try clear hcz26_0
            try clear hcz26_1
            try clear hcz26_2
            try clear hcz26_3
            try clear hcz26_4
            try clear hcz33_0
            try clear hcz33_1
            try clear hcz33_2
            try clear hcz33_3
            try clear hcz33_4
            try clear hcz35_0
            try clear hcz35_1
            try clear hcz35_2
            try clear hcz35_3
            try clear hcz35_4
            try clear hcz38_0
            try clear hcz38_1
            try clear hcz38_2
            try clear hcz38_3
            try clear hcz38_4
            try clear hcz40_0
            try clear hcz40_1
            try clear hcz40_2
            try clear hcz40_3
            try clear hcz40_4
            try clear hcz43_0
            try clear hcz43_1
            try clear hcz43_2
            try clear hcz43_3
            try clear hcz43_4
            try clear hcz9_0
            try clear hcz9_1
            try clear hcz9_2
            try clear hcz9_3
            try clear hcz9_4
            try clear hfz10_0
            try clear hfz10_1
            try clear hfz10_2
            try clear hfz10_3
            try clear hfz10_4
            try clear hfz15_0
            try clear hfz15_1
            try clear hfz15_2
            try clear hfz15_3
            try clear hfz15_4
            try clear hfz21_0
            try clear hfz21_1
            try clear hfz21_2
            try clear hfz21_3
            try clear hfz21_4
            try clear hfz24_0
            try clear hfz24_1
            try clear hfz24_2
            try clear hfz24_3
            try clear hfz24_4
            try clear hfz26_0
            try clear hfz26_1
            try clear hfz26_2
            try clear hfz26_3
            try clear hfz26_4
            try clear hfz33_0
            try clear hfz33_1
            try clear hfz33_2
            try clear hfz33_3
            try clear hfz33_4
            try clear hfz35_0
            try clear hfz35_1
            try clear hfz35_2
            try clear hfz35_3
            try clear hfz35_4
            try clear hfz38_0
            try clear hfz38_1
            try clear hfz38_2
            try clear hfz38_3
            try clear hfz38_4
            try clear hfz40_0
            try clear hfz40_1
            try clear hfz40_2
            try clear hfz40_3
            try clear hfz40_4
            try clear hfz43_0
            try clear hfz43_1
            try clear hfz43_2
            try clear hfz43_3
            try clear hfz43_4
            try clear hfz9_0
            try clear hfz9_1
            try clear hfz9_2
            try clear hfz9_3
            try clear hfz9_4
            try clear p2
            obtain ⟨kq, x43_27, rfl, HA, HJ27, HO_562003, HO_562004, BK549, BK550, BK561, HB⟩ := hcut
            cases kq with
            | zero => exact absurd HA.out (by simp [sealringref29_One.j1])
            | succ kj27 =>
              have H := HA.out
              clear HA
              simp only [sealringref29_One.j1] at H
              by_cases c44 : x43_27 = true
              · subst c44
                have H1 : (some 4) = some r := by rw [if_pos rfl] at H; exact H
                clear H
                have H := H1
                clear H1
                obtain rfl := Option.some.inj H
                go_wp2
                go_ret
                exact ⟨by first | rfl | (simp [errW_none, errW_some] <;> rfl) | (simp [*, errW_none, errW_some] <;> rfl), by repeat (first | (with_reducible first | exact HB.out | apply below_alloc | apply pw_below_drewN | apply below_drew1 | refine below_set ?_ GE549.out | refine below_set ?_ GE550.out | refine below_set ?_ GE561.out) | exact HB.out)⟩
              · replace c44 := Bool.eq_false_iff.mpr c44
                subst c44
                have H1 : (if a1_3 > 0 then (if t551 = 5 then (sealringref29_One.j2 kj27 (decide ((t557.length : Int) > a1_3)) a1_0 a1_1 a1_2 a1_3 a1_4 t551 t552 t553 t554 t557) else (if t551 = 6 then (sealringref29_One.j2 kj27 (decide ((t557.length : Int) > a1_3)) a1_0 a1_1 a1_2 a1_3 a1_4 t551 t552 t553 t554 t557) else (sealringref29_One.j2 kj27 false a1_0 a1_1 a1_2 a1_3 a1_4 t551 t552 t553 t554 t557))) else (sealringref29_One.j2 kj27 false a1_0 a1_1 a1_2 a1_3 a1_4 t551 t552 t553 t554 t557)) = some r := by rw [if_neg (show ¬ (false = true) by decide)] at H; exact H
                clear H
                have H := H1
                clear H1
                have HC45 := Aside0.mk H
                clear H
                go_upto_region 10 with (fail)
                go_cut [64] (fun v64 wc => ∃ (kq : Nat) (x64_44 : Bool), v64 = .bool x64_44 ∧ Aside0 (sealringref29_One.j2 kq x64_44 a1_0 a1_1 a1_2 a1_3 a1_4 t551 t552 t553 t554 t557 = some r) ∧ Aside0 (kq ≤ kj27) ∧ Aside0 (Kd.V Kd.string 9 wc w.heap.size (fun k_ => k_ ≠ gb549 ∧ k_ ≠ gb550 ∧ k_ ≠ gb561) (.slice Ao16 t554.length co16) t554) ∧ Aside0 (Kd.V k25 25 wc w.heap.size (fun k_ => k_ ≠ gb549 ∧ k_ ≠ gb550 ∧ k_ ≠ gb561) (.slice Ao17 t557.length co17) t557) ∧ Aside0 (wc.heap[gb549]? = some (.cells #[.int .i64 a0_0, .int .i64 a0_1, .string a0_2, (.slice A0_3 l0_3.length c0_3), (.slice A0_4 l0_4.length c0_4)] 25 (0, 0))) ∧ Aside0 (wc.heap[gb550]? = some (.cells #[.string a1_0, .int .i64 a1_1, .bool a1_2, .int .i64 a1_3, .bool a1_4] 48 (0, 0))) ∧ Aside0 (wc.heap[gb561]? = some (.cells #[.int .i64 t551, .int .i64 t552, .string t553, (.slice Ao16 t554.length co16), (.slice Ao17 t557.length co17)] 25 (0, 0))) ∧ Aside0 (Below w.heap.size w wc))
                case first =>
                  have H := HC45.out
                  clear HC45
                  by_cases c46 : a1_3 > 0
                  · rw [if_pos c46] at H
                    have c46b0 : decide (0 < a1_3) = true := decide_eq_true c46
                    clear c46
                    (first | rw [c46b0] | (simp only [i64_w, i32_w]; rw [c46b0]) | skip)
                    by_cases c47 : t551 = 5
                    · rw [if_pos c47] at H
                      have c47b0 : (t551 == 5) = true := beq_iff_eq.mpr c47
                      have c47b1 : (t551 != 5) = false := bne_eq_false_iff_eq.mpr c47
                      clear c47
                      have H' := Aside0.mk H
                      clear H
                      have hnb48 := NB550_549.out
                      have hnc48 := NB549_550.out
                      have hnb49 := NB550_561.out
                      have hnc49 := NB561_550.out
                      have hcz50_0 : wc.cell? ⟨gb550, 0, none⟩ = some (.string a1_0) := (blk_cell BK550.out 0).trans rfl
                      have hcz50_1 : wc.cell? ⟨gb550, 1, none⟩ = some (.int .i64 a1_1) := (blk_cell BK550.out 1).trans rfl
                      have hcz50_2 : wc.cell? ⟨gb550, 2, none⟩ = some (.bool a1_2) := (blk_cell BK550.out 2).trans rfl
                      have hcz50_3 : wc.cell? ⟨gb550, 3, none⟩ = some (.int .i64 a1_3) := (blk_cell BK550.out 3).trans rfl
                      have hcz50_4 : wc.cell? ⟨gb550, 4, none⟩ = some (.bool a1_4) := (blk_cell BK550.out 4).trans rfl
                      have hfz50_0 := blk_frozen BK550.out 0
                      have hfz50_1 := blk_frozen BK550.out 1
                      have hfz50_2 := blk_frozen BK550.out 2
                      have hfz50_3 := blk_frozen BK550.out 3
                      have hfz50_4 := blk_frozen BK550.out 4
                      have hnb51 := NB561_549.out
                      have hnc51 := NB549_561.out
                      have hcz52_0 : wc.cell? ⟨gb561, 0, none⟩ = some (.int .i64 t551) := (blk_cell BK561.out 0).trans rfl
                      have hcz52_1 : wc.cell? ⟨gb561, 1, none⟩ = some (.int .i64 t552) := (blk_cell BK561.out 1).trans rfl
                      have hcz52_2 : wc.cell? ⟨gb561, 2, none⟩ = some (.string t553) := (blk_cell BK561.out 2).trans rfl
                      have hcz52_3 : wc.cell? ⟨gb561, 3, none⟩ = some (.slice Ao16 t554.length co16) := (blk_cell BK561.out 3).trans rfl
                      have hcz52_4 : wc.cell? ⟨gb561, 4, none⟩ = some (.slice Ao17 t557.length co17) := (blk_cell BK561.out 4).trans rfl
                      have hfz52_0 := blk_frozen BK561.out 0
                      have hfz52_1 := blk_frozen BK561.out 1
                      have hfz52_2 := blk_frozen BK561.out 2
                      have hfz52_3 := blk_frozen BK561.out 3
                      have hfz52_4 := blk_frozen BK561.out 4
                      go_wp2
                      go_meet
                      case rel => exact ⟨_, (decide ((t557.length : Int) > a1_3)), (by first | rfl | (simp; done) | (simp [*]; done)), (by first | with_reducible exact H' | exact H' | (subst_vars; exact H')), ⟨by have := HJ4.out; have := HJ27.out; first | omega | exact Nat.le_refl _⟩, ⟨by (with_reducible repeat (first | apply Kd.V_alloc | apply Kd.V_drewN | apply Kd.V_drew)); exact HO_562003.out⟩, ⟨by (with_reducible repeat (first | apply Kd.V_alloc | apply Kd.V_drewN | apply Kd.V_drew)); exact HO_562004.out⟩, ⟨by (with_reducible repeat (first | refine blk_drewN ?_ _ | refine blk_drew ?_ | refine blk_alloc ?_ _)); exact BK549.out⟩, ⟨by (with_reducible repeat (first | refine blk_drewN ?_ _ | refine blk_drew ?_ | refine blk_alloc ?_ _)); exact BK550.out⟩, ⟨by (with_reducible repeat (first | refine blk_drewN ?_ _ | refine blk_drew ?_ | refine blk_alloc ?_ _)); exact BK561.out⟩, ⟨by repeat (first | (with_reducible first | exact HB.out | apply below_alloc | apply pw_below_drewN | apply below_drew1 | refine below_set ?_ GE549.out | refine below_set ?_ GE550.out | refine below_set ?_ GE561.out) | exact HB.out)⟩⟩
                    · rw [if_neg c47] at H
                      have c47b0 : (t551 == 5) = false := beq_eq_false_iff_ne.mpr c47
                      have c47b1 : (t551 != 5) = true := bne_iff_ne.mpr c47
                      by_cases c53 : t551 = 6
                      · rw [if_pos c53] at H
                        have c53b0 : (t551 == 6) = true := beq_iff_eq.mpr c53
                        have c53b1 : (t551 != 6) = false := bne_eq_false_iff_eq.mpr c53
                        clear c53
                        have H' := Aside0.mk H
                        clear H
                        have hnb54 := NB550_549.out
                        have hnc54 := NB549_550.out
                        have hnb55 := NB550_561.out
                        have hnc55 := NB561_550.out
                        have hcz56_0 : wc.cell? ⟨gb550, 0, none⟩ = some (.string a1_0) := (blk_cell BK550.out 0).trans rfl
                        have hcz56_1 : wc.cell? ⟨gb550, 1, none⟩ = some (.int .i64 a1_1) := (blk_cell BK550.out 1).trans rfl
                        have hcz56_2 : wc.cell? ⟨gb550, 2, none⟩ = some (.bool a1_2) := (blk_cell BK550.out 2).trans rfl
                        have hcz56_3 : wc.cell? ⟨gb550, 3, none⟩ = some (.int .i64 a1_3) := (blk_cell BK550.out 3).trans rfl
                        have hcz56_4 : wc.cell? ⟨gb550, 4, none⟩ = some (.bool a1_4) := (blk_cell BK550.out 4).trans rfl
                        have hfz56_0 := blk_frozen BK550.out 0
                        have hfz56_1 := blk_frozen BK550.out 1
                        have hfz56_2 := blk_frozen BK550.out 2
                        have hfz56_3 := blk_frozen BK550.out 3
                        have hfz56_4 := blk_frozen BK550.out 4
                        have hnb57 := NB561_549.out
                        have hnc57 := NB549_561.out
                        have hcz58_0 : wc.cell? ⟨gb561, 0, none⟩ = some (.int .i64 t551) := (blk_cell BK561.out 0).trans rfl
                        have hcz58_1 : wc.cell? ⟨gb561, 1, none⟩ = some (.int .i64 t552) := (blk_cell BK561.out 1).trans rfl
                        have hcz58_2 : wc.cell? ⟨gb561, 2, none⟩ = some (.string t553) := (blk_cell BK561.out 2).trans rfl
                        have hcz58_3 : wc.cell? ⟨gb561, 3, none⟩ = some (.slice Ao16 t554.length co16) := (blk_cell BK561.out 3).trans rfl
                        have hcz58_4 : wc.cell? ⟨gb561, 4, none⟩ = some (.slice Ao17 t557.length co17) := (blk_cell BK561.out 4).trans rfl
                        have hfz58_0 := blk_frozen BK561.out 0
                        have hfz58_1 := blk_frozen BK561.out 1
                        have hfz58_2 := blk_frozen BK561.out 2
                        have hfz58_3 := blk_frozen BK561.out 3
                        have hfz58_4 := blk_frozen BK561.out 4
                        go_wp2
                        go_meet
                        case rel => exact ⟨_, (decide ((t557.length : Int) > a1_3)), (by first | rfl | (simp; done) | (simp [*]; done)), (by first | with_reducible exact H' | exact H' | (subst_vars; exact H')), ⟨by have := HJ4.out; have := HJ27.out; first | omega | exact Nat.le_refl _⟩, ⟨by (with_reducible repeat (first | apply Kd.V_alloc | apply Kd.V_drewN | apply Kd.V_drew)); exact HO_562003.out⟩, ⟨by (with_reducible repeat (first | apply Kd.V_alloc | apply Kd.V_drewN | apply Kd.V_drew)); exact HO_562004.out⟩, ⟨by (with_reducible repeat (first | refine blk_drewN ?_ _ | refine blk_drew ?_ | refine blk_alloc ?_ _)); exact BK549.out⟩, ⟨by (with_reducible repeat (first | refine blk_drewN ?_ _ | refine blk_drew ?_ | refine blk_alloc ?_ _)); exact BK550.out⟩, ⟨by (with_reducible repeat (first | refine blk_drewN ?_ _ | refine blk_drew ?_ | refine blk_alloc ?_ _)); exact BK561.out⟩, ⟨by repeat (first | (with_reducible first | exact HB.out | apply below_alloc | apply pw_below_drewN | apply below_drew1 | refine below_set ?_ GE549.out | refine below_set ?_ GE550.out | refine below_set ?_ GE561.out) | exact HB.out)⟩⟩
                      · rw [if_neg c53] at H
                        have c53b0 : (t551 == 6) = false := beq_eq_false_iff_ne.mpr c53
                        have c53b1 : (t551 != 6) = true := bne_iff_ne.mpr c53
                        have H' := Aside0.mk H
                        clear H
                        have hnb59 := NB550_549.out
                        have hnc59 := NB549_550.out
                        have hnb60 := NB550_561.out
                        have hnc60 := NB561_550.out
                        have hcz61_0 : wc.cell? ⟨gb550, 0, none⟩ = some (.string a1_0) := (blk_cell BK550.out 0).trans rfl
                        have hcz61_1 : wc.cell? ⟨gb550, 1, none⟩ = some (.int .i64 a1_1) := (blk_cell BK550.out 1).trans rfl
                        have hcz61_2 : wc.cell? ⟨gb550, 2, none⟩ = some (.bool a1_2) := (blk_cell BK550.out 2).trans rfl
                        have hcz61_3 : wc.cell? ⟨gb550, 3, none⟩ = some (.int .i64 a1_3) := (blk_cell BK550.out 3).trans rfl
                        have hcz61_4 : wc.cell? ⟨gb550, 4, none⟩ = some (.bool a1_4) := (blk_cell BK550.out 4).trans rfl
                        have hfz61_0 := blk_frozen BK550.out 0
                        have hfz61_1 := blk_frozen BK550.out 1
                        have hfz61_2 := blk_frozen BK550.out 2
                        have hfz61_3 := blk_frozen BK550.out 3
                        have hfz61_4 := blk_frozen BK550.out 4
                        have hnb62 := NB561_549.out
                        have hnc62 := NB549_561.out
                        have hcz63_0 : wc.cell? ⟨gb561, 0, none⟩ = some (.int .i64 t551) := (blk_cell BK561.out 0).trans rfl
                        have hcz63_1 : wc.cell? ⟨gb561, 1, none⟩ = some (.int .i64 t552) := (blk_cell BK561.out 1).trans rfl
                        have hcz63_2 : wc.cell? ⟨gb561, 2, none⟩ = some (.string t553) := (blk_cell BK561.out 2).trans rfl
                        have hcz63_3 : wc.cell? ⟨gb561, 3, none⟩ = some (.slice Ao16 t554.length co16) := (blk_cell BK561.out 3).trans rfl
                        have hcz63_4 : wc.cell? ⟨gb561, 4, none⟩ = some (.slice Ao17 t557.length co17) := (blk_cell BK561.out 4).trans rfl
                        have hfz63_0 := blk_frozen BK561.out 0
                        have hfz63_1 := blk_frozen BK561.out 1
                        have hfz63_2 := blk_frozen BK561.out 2
                        have hfz63_3 := blk_frozen BK561.out 3
                        have hfz63_4 := blk_frozen BK561.out 4
                        go_wp2
                        go_meet
                        case rel => exact ⟨_, (false), (by first | rfl | (simp; done) | (simp [*]; done)), (by first | with_reducible exact H' | exact H' | (subst_vars; exact H')), ⟨by have := HJ4.out; have := HJ27.out; first | omega | exact Nat.le_refl _⟩, ⟨by (with_reducible repeat (first | apply Kd.V_alloc | apply Kd.V_drewN | apply Kd.V_drew)); exact HO_562003.out⟩, ⟨by (with_reducible repeat (first | apply Kd.V_alloc | apply Kd.V_drewN | apply Kd.V_drew)); exact HO_562004.out⟩, ⟨by (with_reducible repeat (first | refine blk_drewN ?_ _ | refine blk_drew ?_ | refine blk_alloc ?_ _)); exact BK549.out⟩, ⟨by (with_reducible repeat (first | refine blk_drewN ?_ _ | refine blk_drew ?_ | refine blk_alloc ?_ _)); exact BK550.out⟩, ⟨by (with_reducible repeat (first | refine blk_drewN ?_ _ | refine blk_drew ?_ | refine blk_alloc ?_ _)); exact BK561.out⟩, ⟨by repeat (first | (with_reducible first | exact HB.out | apply below_alloc | apply pw_below_drewN | apply below_drew1 | refine below_set ?_ GE549.out | refine below_set ?_ GE550.out | refine below_set ?_ GE561.out) | exact HB.out)⟩⟩
                  · rw [if_neg c46] at H
                    have c46b0 : decide (0 < a1_3) = false := decide_eq_false c46
                    clear c46
                    (first | rw [c46b0] | (simp only [i64_w, i32_w]; rw [c46b0]) | skip)
                    have H' := Aside0.mk H
                    clear H
                    have hnb64 := NB550_549.out
                    have hnc64 := NB549_550.out
                    have hnb65 := NB550_561.out
                    have hnc65 := NB561_550.out
                    have hcz66_0 : wc.cell? ⟨gb550, 0, none⟩ = some (.string a1_0) := (blk_cell BK550.out 0).trans rfl
                    have hcz66_1 : wc.cell? ⟨gb550, 1, none⟩ = some (.int .i64 a1_1) := (blk_cell BK550.out 1).trans rfl
                    have hcz66_2 : wc.cell? ⟨gb550, 2, none⟩ = some (.bool a1_2) := (blk_cell BK550.out 2).trans rfl
                    have hcz66_3 : wc.cell? ⟨gb550, 3, none⟩ = some (.int .i64 a1_3) := (blk_cell BK550.out 3).trans rfl
                    have hcz66_4 : wc.cell? ⟨gb550, 4, none⟩ = some (.bool a1_4) := (blk_cell BK550.out 4).trans rfl
                    have hfz66_0 := blk_frozen BK550.out 0
                    have hfz66_1 := blk_frozen BK550.out 1
                    have hfz66_2 := blk_frozen BK550.out 2
                    have hfz66_3 := blk_frozen BK550.out 3
                    have hfz66_4 := blk_frozen BK550.out 4
                    go_wp2
                    go_meet
                    case rel => exact ⟨_, (false), (by first | rfl | (simp; done) | (simp [*]; done)), (by first | with_reducible exact H' | exact H' | (subst_vars; exact H')), ⟨by have := HJ4.out; have := HJ27.out; first | omega | exact Nat.le_refl _⟩, ⟨by (with_reducible repeat (first | apply Kd.V_alloc | apply Kd.V_drewN | apply Kd.V_drew)); exact HO_562003.out⟩, ⟨by (with_reducible repeat (first | apply Kd.V_alloc | apply Kd.V_drewN | apply Kd.V_drew)); exact HO_562004.out⟩, ⟨by (with_reducible repeat (first | refine blk_drewN ?_ _ | refine blk_drew ?_ | refine blk_alloc ?_ _)); exact BK549.out⟩, ⟨by (with_reducible repeat (first | refine blk_drewN ?_ _ | refine blk_drew ?_ | refine blk_alloc ?_ _)); exact BK550.out⟩, ⟨by (with_reducible repeat (first | refine blk_drewN ?_ _ | refine blk_drew ?_ | refine blk_alloc ?_ _)); exact BK561.out⟩, ⟨by repeat (first | (with_reducible first | exact HB.out | apply below_alloc | apply pw_below_drewN | apply below_drew1 | refine below_set ?_ GE549.out | refine below_set ?_ GE550.out | refine below_set ?_ GE561.out) | exact HB.out)⟩⟩
                case rest =>
                  clear HC45
                  try clear c1
                  try clear c2
                  try clear p2
                  try clear c3
                  try clear c4
                  try clear c5
                  try clear c6
                  try clear c8
                  try clear c13
                  try clear c14
                  try clear c18
                  try clear c18b0
                  try clear c18b1
                  try clear c19
                  try clear c20
                  try clear c22
                  try clear c23
                  try clear c25
                  try clear c27
                  try clear c29
                  try clear c29b0
                  try clear c30
                  try clear c30b0
                  try clear c30b1
                  try clear c31
                  try clear c32
                  try clear c34
                  try clear c36
                  try clear c37
                  try clear c39
                  try clear c41
                  try clear c42
                  try clear c44
                  try clear c46
                  try clear c46b0
                  try clear c47
                  try clear c47b0
                  try clear c47b1
                  try clear c48
                  try clear c49
                  try clear c51
                  try clear c53
                  try clear c53b0
                  try clear c53b1
                  try clear c54
                  try clear c55
                  try clear c57
                  try clear c59
                  try clear c60
                  try clear c62
                  try clear c64
                  try clear c65
                  try clear hcz10_0
                  try clear hcz10_1
                  try clear hcz10_2
                  try clear hcz10_3
                  try clear hcz10_4
                  try clear hcz15_0
                  try clear hcz15_1
                  try clear hcz15_2
                  try clear hcz15_3
                  try clear hcz15_4
                  try clear hcz21_0
                  try clear hcz21_1
                  try clear hcz21_2
                  try clear hcz21_3
                  try clear hcz21_4
                  try clear hcz24_0
                  try clear hcz24_1
                  try clear hcz24_2
                  try clear hcz24_3
                  try clear hcz24_4
                  try clear hcz26_0
                  try clear hcz26_1
                  try clear hcz26_2
                  try clear hcz26_3
                  try clear hcz26_4
                  try clear hcz33_0
                  try clear hcz33_1
                  try clear hcz33_2
                  try clear hcz33_3
                  try clear hcz33_4
                  try clear hcz35_0
                  try clear hcz35_1
                  try clear hcz35_2
                  try clear hcz35_3
                  try clear hcz35_4
                  try clear hcz38_0
                  try clear hcz38_1
                  try clear hcz38_2
                  try clear hcz38_3
                  try clear hcz38_4
                  try clear hcz40_0
                  try clear hcz40_1
                  try clear hcz40_2
                  try clear hcz40_3
                  try clear hcz40_4
                  try clear hcz43_0
                  try clear hcz43_1
                  try clear hcz43_2
                  try clear hcz43_3
                  try clear hcz43_4
                  try clear hcz50_0
                  try clear hcz50_1
                  try clear hcz50_2
                  try clear hcz50_3
                  try clear hcz50_4
                  try clear hcz52_0
                  try clear hcz52_1
                  try clear hcz52_2
                  try clear hcz52_3
                  try clear hcz52_4
                  try clear hcz56_0
                  try clear hcz56_1
                  try clear hcz56_2
                  try clear hcz56_3
                  try clear hcz56_4
                  try clear hcz58_0
                  try clear hcz58_1
                  try clear hcz58_2
                  try clear hcz58_3
                  try clear hcz58_4
                  try clear hcz61_0
                  try clear hcz61_1
                  try clear hcz61_2
                  try clear hcz61_3
                  try clear hcz61_4
                  try clear hcz63_0
                  try clear hcz63_1
                  try clear hcz63_2
                  try clear hcz63_3
                  try clear hcz63_4
                  try clear hcz66_0
                  try clear hcz66_1
                  try clear hcz66_2
                  try clear hcz66_3
                  try clear hcz66_4
                  try clear hcz9_0
                  try clear hcz9_1
                  try clear hcz9_2
                  try clear hcz9_3
                  try clear hcz9_4
                  try clear hfz10_0
                  try clear hfz10_1
                  try clear hfz10_2
                  try clear hfz10_3
                  try clear hfz10_4
                  try clear hfz15_0
                  try clear hfz15_1
                  try clear hfz15_2
                  try clear hfz15_3
                  try clear hfz15_4
                  try clear hfz21_0
                  try clear hfz21_1
                  try clear hfz21_2
                  try clear hfz21_3
                  try clear hfz21_4
                  try clear hfz24_0
                  try clear hfz24_1
                  try clear hfz24_2
                  try clear hfz24_3
                  try clear hfz24_4
                  try clear hfz26_0
                  try clear hfz26_1
                  try clear hfz26_2
                  try clear hfz26_3
                  try clear hfz26_4
                  try clear hfz33_0
                  try clear hfz33_1
                  try clear hfz33_2
                  try clear hfz33_3
                  try clear hfz33_4
                  try clear hfz35_0
                  try clear hfz35_1
                  try clear hfz35_2
                  try clear hfz35_3
                  try clear hfz35_4
                  try clear hfz38_0
                  try clear hfz38_1
                  try clear hfz38_2
                  try clear hfz38_3
                  try clear hfz38_4
                  try clear hfz40_0
                  try clear hfz40_1
                  try clear hfz40_2
                  try clear hfz40_3
                  try clear hfz40_4
                  try clear hfz43_0
                  try clear hfz43_1
                  try clear hfz43_2
                  try clear hfz43_3
                  try clear hfz43_4
                  try clear hfz50_0
                  try clear hfz50_1
                  try clear hfz50_2
                  try clear hfz50_3
                  try clear hfz50_4
                  try clear hfz52_0
                  try clear hfz52_1
                  try clear hfz52_2
                  try clear hfz52_3
                  try clear hfz52_4
                  try clear hfz56_0
                  try clear hfz56_1
                  try clear hfz56_2
                  try clear hfz56_3
                  try clear hfz56_4
                  try clear hfz58_0
                  try clear hfz58_1
                  try clear hfz58_2
                  try clear hfz58_3
                  try clear hfz58_4
                  try clear hfz61_0
                  try clear hfz61_1
                  try clear hfz61_2
                  try clear hfz61_3
                  try clear hfz61_4
                  try clear hfz63_0
                  try clear hfz63_1
                  try clear hfz63_2
                  try clear hfz63_3
                  try clear hfz63_4
                  try clear hfz66_0
                  try clear hfz66_1
                  try clear hfz66_2
                  try clear hfz66_3
                  try clear hfz66_4
                  try clear hfz9_0
                  try clear hfz9_1
                  try clear hfz9_2
                  try clear hfz9_3
                  try clear hfz9_4
                  try clear p2
                  obtain ⟨kq, x64_44, rfl, HA, HJ44, HO_562003, HO_562004, BK549, BK550, BK561, HB⟩ := hcut
                  cases kq with
                  | zero => exact absurd HA.out (by simp [sealringref29_One.j2])
                  | succ kj44 =>
                    have H := HA.out
                    clear HA
                    simp only [sealringref29_One.j2] at H
                    by_cases c67 : x64_44 = true
                    · subst c67
                      have H1 : (some 18) = some r := by rw [if_pos rfl] at H; exact H
                      clear H
                      have H := H1
                      clear H1
                      obtain rfl := Option.some.inj H
                      go_wp2
                      go_ret
                      exact ⟨by first | rfl | (simp [errW_none, errW_some] <;> rfl) | (simp [*, errW_none, errW_some] <;> rfl), by repeat (first | (with_reducible first | exact HB.out | apply below_alloc | apply pw_below_drewN | apply below_drew1 | refine below_set ?_ GE549.out | refine below_set ?_ GE550.out | refine below_set ?_ GE561.out) | exact HB.out)⟩
                    · replace c67 := Bool.eq_false_iff.mpr c67
                      subst c67
                      have H1 : (if a1_4 = true then (if t551 = 3 then (if t552 < 0 then (some 2) else (some 0)) else (some 0)) else (some 0)) = some r := by rw [if_neg (show ¬ (false = true) by decide)] at H; exact H
                      clear H
                      have H := H1
                      clear H1
                      by_cases c68 : a1_4 = true
                      · subst c68
                        have H1 : (if t551 = 3 then (if t552 < 0 then (some 2) else (some 0)) else (some 0)) = some r := by rw [if_pos rfl] at H; exact H
                        clear H
                        have H := H1
                        clear H1
                        by_cases c69 : t551 = 3
                        · rw [if_pos c69] at H
                          have c69b0 : (t551 == 3) = true := beq_iff_eq.mpr c69
                          have c69b1 : (t551 != 3) = false := bne_eq_false_iff_eq.mpr c69
                          clear c69
                          by_cases c70 : t552 < 0
                          · rw [if_pos c70] at H
                            have c70b0 : decide (t552 < 0) = true := decide_eq_true c70
                            clear c70
                            obtain rfl := Option.some.inj H
                            have hnb71 := NB550_549.out
                            have hnc71 := NB549_550.out
                            have hnb72 := NB550_561.out
                            have hnc72 := NB561_550.out
                            have hcz73_0 : wc.cell? ⟨gb550, 0, none⟩ = some (.string a1_0) := (blk_cell BK550.out 0).trans rfl
                            have hcz73_1 : wc.cell? ⟨gb550, 1, none⟩ = some (.int .i64 a1_1) := (blk_cell BK550.out 1).trans rfl
                            have hcz73_2 : wc.cell? ⟨gb550, 2, none⟩ = some (.bool a1_2) := (blk_cell BK550.out 2).trans rfl
                            have hcz73_3 : wc.cell? ⟨gb550, 3, none⟩ = some (.int .i64 a1_3) := (blk_cell BK550.out 3).trans rfl
                            have hcz73_4 : wc.cell? ⟨gb550, 4, none⟩ = some (.bool true) := (blk_cell BK550.out 4).trans rfl
                            have hfz73_0 := blk_frozen BK550.out 0
                            have hfz73_1 := blk_frozen BK550.out 1
                            have hfz73_2 := blk_frozen BK550.out 2
                            have hfz73_3 := blk_frozen BK550.out 3
                            have hfz73_4 := blk_frozen BK550.out 4
                            have hnb74 := NB561_549.out
                            have hnc74 := NB549_561.out
                            have hcz75_0 : wc.cell? ⟨gb561, 0, none⟩ = some (.int .i64 t551) := (blk_cell BK561.out 0).trans rfl
                            have hcz75_1 : wc.cell? ⟨gb561, 1, none⟩ = some (.int .i64 t552) := (blk_cell BK561.out 1).trans rfl
                            have hcz75_2 : wc.cell? ⟨gb561, 2, none⟩ = some (.string t553) := (blk_cell BK561.out 2).trans rfl
                            have hcz75_3 : wc.cell? ⟨gb561, 3, none⟩ = some (.slice Ao16 t554.length co16) := (blk_cell BK561.out 3).trans rfl
                            have hcz75_4 : wc.cell? ⟨gb561, 4, none⟩ = some (.slice Ao17 t557.length co17) := (blk_cell BK561.out 4).trans rfl
                            have hfz75_0 := blk_frozen BK561.out 0
                            have hfz75_1 := blk_frozen BK561.out 1
                            have hfz75_2 := blk_frozen BK561.out 2
                            have hfz75_3 := blk_frozen BK561.out 3
                            have hfz75_4 := blk_frozen BK561.out 4
                            go_wp2
                            go_ret
                            exact ⟨by first | rfl | (simp [errW_none, errW_some] <;> rfl) | (simp [*, errW_none, errW_some] <;> rfl), by repeat (first | (with_reducible first | exact HB.out | apply below_alloc | apply pw_below_drewN | apply below_drew1 | refine below_set ?_ GE549.out | refine below_set ?_ GE550.out | refine below_set ?_ GE561.out) | exact HB.out)⟩
                          · rw [if_neg c70] at H
                            have c70b0 : decide (t552 < 0) = false := decide_eq_false c70
                            clear c70
                            obtain rfl := Option.some.inj H
                            have hnb76 := NB550_549.out
                            have hnc76 := NB549_550.out
                            have hnb77 := NB550_561.out
                            have hnc77 := NB561_550.out
                            have hcz78_0 : wc.cell? ⟨gb550, 0, none⟩ = some (.string a1_0) := (blk_cell BK550.out 0).trans rfl
                            have hcz78_1 : wc.cell? ⟨gb550, 1, none⟩ = some (.int .i64 a1_1) := (blk_cell BK550.out 1).trans rfl
                            have hcz78_2 : wc.cell? ⟨gb550, 2, none⟩ = some (.bool a1_2) := (blk_cell BK550.out 2).trans rfl
                            have hcz78_3 : wc.cell? ⟨gb550, 3, none⟩ = some (.int .i64 a1_3) := (blk_cell BK550.out 3).trans rfl
                            have hcz78_4 : wc.cell? ⟨gb550, 4, none⟩ = some (.bool true) := (blk_cell BK550.out 4).trans rfl
                            have hfz78_0 := blk_frozen BK550.out 0
                            have hfz78_1 := blk_frozen BK550.out 1
                            have hfz78_2 := blk_frozen BK550.out 2
                            have hfz78_3 := blk_frozen BK550.out 3
                            have hfz78_4 := blk_frozen BK550.out 4
                            have hnb79 := NB561_549.out
                            have hnc79 := NB549_561.out
                            have hcz80_0 : wc.cell? ⟨gb561, 0, none⟩ = some (.int .i64 t551) := (blk_cell BK561.out 0).trans rfl
                            have hcz80_1 : wc.cell? ⟨gb561, 1, none⟩ = some (.int .i64 t552) := (blk_cell BK561.out 1).trans rfl
                            have hcz80_2 : wc.cell? ⟨gb561, 2, none⟩ = some (.string t553) := (blk_cell BK561.out 2).trans rfl
                            have hcz80_3 : wc.cell? ⟨gb561, 3, none⟩ = some (.slice Ao16 t554.length co16) := (blk_cell BK561.out 3).trans rfl
                            have hcz80_4 : wc.cell? ⟨gb561, 4, none⟩ = some (.slice Ao17 t557.length co17) := (blk_cell BK561.out 4).trans rfl
                            have hfz80_0 := blk_frozen BK561.out 0
                            have hfz80_1 := blk_frozen BK561.out 1
                            have hfz80_2 := blk_frozen BK561.out 2
                            have hfz80_3 := blk_frozen BK561.out 3
                            have hfz80_4 := blk_frozen BK561.out 4
                            go_wp2
                            go_ret
                            exact ⟨by first | rfl | (simp [errW_none, errW_some] <;> rfl) | (simp [*, errW_none, errW_some] <;> rfl), by repeat (first | (with_reducible first | exact HB.out | apply below_alloc | apply pw_below_drewN | apply below_drew1 | refine below_set ?_ GE549.out | refine below_set ?_ GE550.out | refine below_set ?_ GE561.out) | exact HB.out)⟩
                        · rw [if_neg c69] at H
                          have c69b0 : (t551 == 3) = false := beq_eq_false_iff_ne.mpr c69
                          have c69b1 : (t551 != 3) = true := bne_iff_ne.mpr c69
                          obtain rfl := Option.some.inj H
                          have hnb81 := NB550_549.out
                          have hnc81 := NB549_550.out
                          have hnb82 := NB550_561.out
                          have hnc82 := NB561_550.out
                          have hcz83_0 : wc.cell? ⟨gb550, 0, none⟩ = some (.string a1_0) := (blk_cell BK550.out 0).trans rfl
                          have hcz83_1 : wc.cell? ⟨gb550, 1, none⟩ = some (.int .i64 a1_1) := (blk_cell BK550.out 1).trans rfl
                          have hcz83_2 : wc.cell? ⟨gb550, 2, none⟩ = some (.bool a1_2) := (blk_cell BK550.out 2).trans rfl
                          have hcz83_3 : wc.cell? ⟨gb550, 3, none⟩ = some (.int .i64 a1_3) := (blk_cell BK550.out 3).trans rfl
                          have hcz83_4 : wc.cell? ⟨gb550, 4, none⟩ = some (.bool true) := (blk_cell BK550.out 4).trans rfl
                          have hfz83_0 := blk_frozen BK550.out 0
                          have hfz83_1 := blk_frozen BK550.out 1
                          have hfz83_2 := blk_frozen BK550.out 2
                          have hfz83_3 := blk_frozen BK550.out 3
                          have hfz83_4 := blk_frozen BK550.out 4
                          have hnb84 := NB561_549.out
                          have hnc84 := NB549_561.out
                          have hcz85_0 : wc.cell? ⟨gb561, 0, none⟩ = some (.int .i64 t551) := (blk_cell BK561.out 0).trans rfl
                          have hcz85_1 : wc.cell? ⟨gb561, 1, none⟩ = some (.int .i64 t552) := (blk_cell BK561.out 1).trans rfl
                          have hcz85_2 : wc.cell? ⟨gb561, 2, none⟩ = some (.string t553) := (blk_cell BK561.out 2).trans rfl
                          have hcz85_3 : wc.cell? ⟨gb561, 3, none⟩ = some (.slice Ao16 t554.length co16) := (blk_cell BK561.out 3).trans rfl
                          have hcz85_4 : wc.cell? ⟨gb561, 4, none⟩ = some (.slice Ao17 t557.length co17) := (blk_cell BK561.out 4).trans rfl
                          have hfz85_0 := blk_frozen BK561.out 0
                          have hfz85_1 := blk_frozen BK561.out 1
                          have hfz85_2 := blk_frozen BK561.out 2
                          have hfz85_3 := blk_frozen BK561.out 3
                          have hfz85_4 := blk_frozen BK561.out 4
                          go_wp2
                          go_ret
                          exact ⟨by first | rfl | (simp [errW_none, errW_some] <;> rfl) | (simp [*, errW_none, errW_some] <;> rfl), by repeat (first | (with_reducible first | exact HB.out | apply below_alloc | apply pw_below_drewN | apply below_drew1 | refine below_set ?_ GE549.out | refine below_set ?_ GE550.out | refine below_set ?_ GE561.out) | exact HB.out)⟩
                      · replace c68 := Bool.eq_false_iff.mpr c68
                        subst c68
                        have H1 : (some 0) = some r := by rw [if_neg (show ¬ (false = true) by decide)] at H; exact H
                        clear H
                        have H := H1
                        clear H1
                        obtain rfl := Option.some.inj H
                        have hnb86 := NB550_549.out
                        have hnc86 := NB549_550.out
                        have hnb87 := NB550_561.out
                        have hnc87 := NB561_550.out
                        have hcz88_0 : wc.cell? ⟨gb550, 0, none⟩ = some (.string a1_0) := (blk_cell BK550.out 0).trans rfl
                        have hcz88_1 : wc.cell? ⟨gb550, 1, none⟩ = some (.int .i64 a1_1) := (blk_cell BK550.out 1).trans rfl
                        have hcz88_2 : wc.cell? ⟨gb550, 2, none⟩ = some (.bool a1_2) := (blk_cell BK550.out 2).trans rfl
                        have hcz88_3 : wc.cell? ⟨gb550, 3, none⟩ = some (.int .i64 a1_3) := (blk_cell BK550.out 3).trans rfl
                        have hcz88_4 : wc.cell? ⟨gb550, 4, none⟩ = some (.bool false) := (blk_cell BK550.out 4).trans rfl
                        have hfz88_0 := blk_frozen BK550.out 0
                        have hfz88_1 := blk_frozen BK550.out 1
                        have hfz88_2 := blk_frozen BK550.out 2
                        have hfz88_3 := blk_frozen BK550.out 3
                        have hfz88_4 := blk_frozen BK550.out 4
                        go_wp2
                        go_ret
                        exact ⟨by first | rfl | (simp [errW_none, errW_some] <;> rfl) | (simp [*, errW_none, errW_some] <;> rfl), by repeat (first | (with_reducible first | exact HB.out | apply below_alloc | apply pw_below_drewN | apply below_drew1 | refine below_set ?_ GE549.out | refine below_set ?_ GE550.out | refine below_set ?_ GE561.out) | exact HB.out)⟩
  · replace c4 := Bool.eq_false_iff.mpr c4
    subst c4
    have H1 : (if a1_2 = true then (some 15) else (some 0)) = some r := by rw [if_neg (show ¬ (false = true) by decide)] at H; exact H
    clear H
    have H := H1
    clear H1
    by_cases c89 : a1_2 = true
    · subst c89
      have H1 : (some 15) = some r := by rw [if_pos rfl] at H; exact H
      clear H
      have H := H1
      clear H1
      obtain rfl := Option.some.inj H
      go_enter Try.func80, Try.ntmps80
      go_wp2_with (first | ((with_reducible refine gate_dst (N := 2) rfl ?_); (try (refine gate_guard (by rfl) ?_; dsimp only)); refine box_event ?hg (N := 2) ?hd (cs := #[.int .i64 a0_0, .int .i64 a0_1, .string a0_2, .slice A0_3 l0_3.length c0_3, .slice A0_4 l0_4.length c0_4]) (t := 25) ?hr ?_; (case hd => rfl); (case hg => rfl); (case hr => first | (go_simp; done) | (go_simp; rfl)); intro gb549 hg w90 hbox hb; have n0_ := Aside0.mk (below_step (by repeat (first | (with_reducible first | exact HB.out | apply below_alloc | apply pw_below_drewN | apply below_drew1) | exact HB.out)) hb); have n1_ := Aside0.mk (hbox); have n2_ := Aside0.mk ((by rw [hg]; exact (below_size (by repeat (first | (with_reducible first | exact HB.out | apply below_alloc | apply pw_below_drewN | apply below_drew1) | exact HB.out))) : w.heap.size ≤ gb549)); have n3_ := Aside0.mk ((by rw [hg]; exact (below_size (by repeat (first | (with_reducible first | exact HB.out | apply below_alloc | apply pw_below_drewN | apply below_drew1) | exact HB.out))) : w.heap.size ≤ gb549)); clear HB; have HB := n0_; have BK549 := n1_; have GW549 := n2_; have GE549 := n3_; clear n0_ n1_ n2_ n3_; clear hb hbox hg) | ((with_reducible refine gate_dst (N := 3) rfl ?_); (try (refine gate_guard (by rfl) ?_; dsimp only)); refine box_event ?hg (N := 3) ?hd (cs := #[.string a1_0, .int .i64 a1_1, .bool true, .int .i64 a1_3, .bool a1_4]) (t := 48) ?hr ?_; (case hd => rfl); (case hg => rfl); (case hr => first | (go_simp; done) | (go_simp; rfl)); intro gb550 hg w91 hbox hb; have n0_ := Aside0.mk (blk_below (g := gb549) (o := .cells #[.int .i64 a0_0, .int .i64 a0_1, .string a0_2, .slice A0_3 l0_3.length c0_3, .slice A0_4 l0_4.length c0_4] 25 (0, 0)) (by (with_reducible repeat (first | refine blk_drewN ?_ _ | refine blk_drew ?_ | refine blk_alloc ?_ _)); exact BK549.out) hb); have n1_ := Aside0.mk (below_step (by repeat (first | (with_reducible first | exact HB.out | apply below_alloc | apply pw_below_drewN | apply below_drew1 | refine below_set ?_ GE549.out) | exact HB.out)) hb); have n2_ := Aside0.mk (hbox); have n3_ := Aside0.mk ((by rw [hg]; exact (below_size (by repeat (first | (with_reducible first | exact HB.out | apply below_alloc | apply pw_below_drewN | apply below_drew1 | refine below_set ?_ GE549.out) | exact HB.out))) : w.heap.size ≤ gb550)); have n4_ := Aside0.mk ((by rw [hg]; exact (below_size (by repeat (first | (with_reducible first | exact HB.out | apply below_alloc | apply pw_below_drewN | apply below_drew1 | refine below_set ?_ GE549.out) | exact HB.out))) : w.heap.size ≤ gb550)); have n5_ := Aside0.mk ((by rw [hg]; exact Nat.ne_of_lt (blk_lt (g := gb549) (o := .cells #[.int .i64 a0_0, .int .i64 a0_1, .string a0_2, .slice A0_3 l0_3.length c0_3, .slice A0_4 l0_4.length c0_4] 25 (0, 0)) (by (with_reducible repeat (first | refine blk_drewN ?_ _ | refine blk_drew ?_ | refine blk_alloc ?_ _)); exact BK549.out)) : gb549 ≠ gb550)); have n6_ := Aside0.mk ((by rw [hg]; exact Nat.ne_of_gt (blk_lt (g := gb549) (o := .cells #[.int .i64 a0_0, .int .i64 a0_1, .string a0_2, .slice A0_3 l0_3.length c0_3, .slice A0_4 l0_4.length c0_4] 25 (0, 0)) (by (with_reducible repeat (first | refine blk_drewN ?_ _ | refine blk_drew ?_ | refine blk_alloc ?_ _)); exact BK549.out)) : gb550 ≠ gb549)); clear BK549; clear HB; have BK549 := n0_; have HB := n1_; have BK550 := n2_; have GW550 := n3_; have GE550 := n4_; have NB549_550 := n5_; have NB550_549 := n6_; clear n0_ n1_ n2_ n3_ n4_ n5_ n6_; clear hb hbox hg; have hnb92 := NB549_550.out; have hnc92 := NB550_549.out; have hcz93_0 : w91.cell? ⟨gb549, 0, none⟩ = some (.int .i64 a0_0) := (blk_cell BK549.out 0).trans rfl; have hcz93_1 : w91.cell? ⟨gb549, 1, none⟩ = some (.int .i64 a0_1) := (blk_cell BK549.out 1).trans rfl; have hcz93_2 : w91.cell? ⟨gb549, 2, none⟩ = some (.string a0_2) := (blk_cell BK549.out 2).trans rfl; have hcz93_3 : w91.cell? ⟨gb549, 3, none⟩ = some (.slice A0_3 l0_3.length c0_3) := (blk_cell BK549.out 3).trans rfl; have hcz93_4 : w91.cell? ⟨gb549, 4, none⟩ = some (.slice A0_4 l0_4.length c0_4) := (blk_cell BK549.out 4).trans rfl; have hfz93_0 := blk_frozen BK549.out 0; have hfz93_1 := blk_frozen BK549.out 1; have hfz93_2 := blk_frozen BK549.out 2; have hfz93_3 := blk_frozen BK549.out 3; have hfz93_4 := blk_frozen BK549.out 4; have hcz94_0 : w91.cell? ⟨gb550, 0, none⟩ = some (.string a1_0) := (blk_cell BK550.out 0).trans rfl; have hcz94_1 : w91.cell? ⟨gb550, 1, none⟩ = some (.int .i64 a1_1) := (blk_cell BK550.out 1).trans rfl; have hcz94_2 : w91.cell? ⟨gb550, 2, none⟩ = some (.bool true) := (blk_cell BK550.out 2).trans rfl; have hcz94_3 : w91.cell? ⟨gb550, 3, none⟩ = some (.int .i64 a1_3) := (blk_cell BK550.out 3).trans rfl; have hcz94_4 : w91.cell? ⟨gb550, 4, none⟩ = some (.bool a1_4) := (blk_cell BK550.out 4).trans rfl; have hfz94_0 := blk_frozen BK550.out 0; have hfz94_1 := blk_frozen BK550.out 1; have hfz94_2 := blk_frozen BK550.out 2; have hfz94_3 := blk_frozen BK550.out 3; have hfz94_4 := blk_frozen BK550.out 4) | ((with_reducible refine gate_callee (f := 62) rfl ?_); refine goesL_ (some 11) rfl rfl Try.func62 (by kernel_rfl) rfl #[.agg #[.int .i64 a0_0, .int .i64 a0_1, .string a0_2, .slice A0_3 l0_3.length c0_3, .slice A0_4 l0_4.length c0_4], .string a1_0] rfl (by (try simp only [List.map_toArray, List.map_cons, List.map_nil]); first | done | rfl | (simp only [List.length_drop, List.length_take]; rfl)) ?_; (with_reducible refine (sealringref07_Get.calls k a0_0 a0_1 a0_2 _ _ l0_3 (fun k_ => k_ < w.heap.size) _ _ l0_4 a1_0 t551 t552 t553 t554 t557 false _ ?side1 ?side2 ?side3 A3.out).mono ?_); (case side1 => repeat (first | exact (Kd.C_below HR0_3.out HB.out) | (with_reducible refine Kd.C_alloc ?_ _) | (with_reducible refine Kd.C_drewN ?_ _) | (with_reducible refine Kd.C_drew ?_))); (case side2 => exact HC0_3.out); (case side3 => exact Kd.V_mk HC0_4.out (Kd.F_below (Kd.C_F k25_heap HR0_4.out) (by repeat (first | (with_reducible first | exact HB.out | apply below_alloc | apply pw_below_drewN | apply below_drew1 | refine below_set ?_ GE549.out | refine below_set ?_ GE550.out) | exact HB.out)))); rintro e w95 ⟨v555, v558, rfl, ho0, ho1, hb⟩; refine ⟨_, rfl, ?_⟩; have n0_ := Aside0.mk (Kd.V_lower (Kd.V_mono (ok' := fun k_ => k_ ≠ gb549 ∧ k_ ≠ gb550) ho0 (fun k_ hk_ => ⟨Or.elim hk_ (fun hs_ => fun e_ => Nat.not_le.2 hs_ (by rw [e_]; exact GW549.out)) (fun hn_ => (Kd.freshB (g := gb549) (o := .cells #[.int .i64 a0_0, .int .i64 a0_1, .string a0_2, .slice A0_3 l0_3.length c0_3, .slice A0_4 l0_4.length c0_4] 25 (0, 0)) (by (with_reducible repeat (first | refine blk_drewN ?_ _ | refine blk_drew ?_ | refine blk_alloc ?_ _)); exact BK549.out) k_ hn_)), Or.elim hk_ (fun hs_ => fun e_ => Nat.not_le.2 hs_ (by rw [e_]; exact GW550.out)) (fun hn_ => (Kd.freshB (g := gb550) (o := .cells #[.string a1_0, .int .i64 a1_1, .bool true, .int .i64 a1_3, .bool a1_4] 48 (0, 0)) (by (with_reducible repeat (first | refine blk_drewN ?_ _ | refine blk_drew ?_ | refine blk_alloc ?_ _)); exact BK550.out) k_ hn_))⟩)) (below_size (by repeat (first | (with_reducible first | exact HB.out | apply below_alloc | apply pw_below_drewN | apply below_drew1 | refine below_set ?_ GE549.out | refine below_set ?_ GE550.out) | exact HB.out)))); have n1_ := Aside0.mk (Kd.V_lower (Kd.V_mono (ok' := fun k_ => k_ ≠ gb549 ∧ k_ ≠ gb550) ho1 (fun k_ hk_ => ⟨Or.elim hk_ (fun hs_ => fun e_ => Nat.not_le.2 hs_ (by rw [e_]; exact GW549.out)) (fun hn_ => (Kd.freshB (g := gb549) (o := .cells #[.int .i64 a0_0, .int .i64 a0_1, .string a0_2, .slice A0_3 l0_3.length c0_3, .slice A0_4 l0_4.length c0_4] 25 (0, 0)) (by (with_reducible repeat (first | refine blk_drewN ?_ _ | refine blk_drew ?_ | refine blk_alloc ?_ _)); exact BK549.out) k_ hn_)), Or.elim hk_ (fun hs_ => fun e_ => Nat.not_le.2 hs_ (by rw [e_]; exact GW550.out)) (fun hn_ => (Kd.freshB (g := gb550) (o := .cells #[.string a1_0, .int .i64 a1_1, .bool true, .int .i64 a1_3, .bool a1_4] 48 (0, 0)) (by (with_reducible repeat (first | refine blk_drewN ?_ _ | refine blk_drew ?_ | refine blk_alloc ?_ _)); exact BK550.out) k_ hn_))⟩)) (below_size (by repeat (first | (with_reducible first | exact HB.out | apply below_alloc | apply pw_below_drewN | apply below_drew1 | refine below_set ?_ GE549.out | refine below_set ?_ GE550.out) | exact HB.out)))); have n2_ := Aside0.mk (blk_below (g := gb549) (o := .cells #[.int .i64 a0_0, .int .i64 a0_1, .string a0_2, .slice A0_3 l0_3.length c0_3, .slice A0_4 l0_4.length c0_4] 25 (0, 0)) (by (with_reducible repeat (first | refine blk_drewN ?_ _ | refine blk_drew ?_ | refine blk_alloc ?_ _)); exact BK549.out) hb); have n3_ := Aside0.mk (blk_below (g := gb550) (o := .cells #[.string a1_0, .int .i64 a1_1, .bool true, .int .i64 a1_3, .bool a1_4] 48 (0, 0)) (by (with_reducible repeat (first | refine blk_drewN ?_ _ | refine blk_drew ?_ | refine blk_alloc ?_ _)); exact BK550.out) hb); have n4_ := Aside0.mk (below_step (by repeat (first | (with_reducible first | exact HB.out | apply below_alloc | apply pw_below_drewN | apply below_drew1 | refine below_set ?_ GE549.out | refine below_set ?_ GE550.out) | exact HB.out)) hb); clear BK549; clear BK550; clear HB; have HO556 := n0_; have HO559 := n1_; have BK549 := n2_; have BK550 := n3_; have HB := n4_; clear n0_ n1_ n2_ n3_ n4_; (try clear hb); (try clear hb2); (try clear hk); (try clear hi); (try clear ho0); (try clear ho1)) | ((with_reducible refine gate_dst (N := 5) rfl ?_); (try (refine gate_guard (by rfl) ?_; dsimp only)); refine box_event ?hg (N := 5) ?hd (cs := #[.int .i64 0, .int .i64 0, .string (⟨#[]⟩ : ByteArray), .slice none 0 0, .slice none 0 0]) (t := 25) ?hr ?_; (case hd => rfl); (case hg => rfl); (case hr => first | (go_simp; done) | (go_simp; rfl)); intro gb561 hg w96 hbox hb; have n0_ := Aside0.mk (Kd.V_below (Kd.V_elderB (by (with_reducible repeat (first | apply Kd.V_alloc | apply Kd.V_drewN | apply Kd.V_drew)); exact HO556.out) gb561 (Nat.le_of_eq hg.symm)) hb); have n1_ := Aside0.mk (Kd.V_below (Kd.V_elderB (by (with_reducible repeat (first | apply Kd.V_alloc | apply Kd.V_drewN | apply Kd.V_drew)); exact HO559.out) gb561 (Nat.le_of_eq hg.symm)) hb); have n2_ := Aside0.mk (blk_below (g := gb549) (o := .cells #[.int .i64 a0_0, .int .i64 a0_1, .string a0_2, .slice A0_3 l0_3.length c0_3, .slice A0_4 l0_4.length c0_4] 25 (0, 0)) (by (with_reducible repeat (first | refine blk_drewN ?_ _ | refine blk_drew ?_ | refine blk_alloc ?_ _)); exact BK549.out) hb); have n3_ := Aside0.mk (blk_below (g := gb550) (o := .cells #[.string a1_0, .int .i64 a1_1, .bool true, .int .i64 a1_3, .bool a1_4] 48 (0, 0)) (by (with_reducible repeat (first | refine blk_drewN ?_ _ | refine blk_drew ?_ | refine blk_alloc ?_ _)); exact BK550.out) hb); have n4_ := Aside0.mk (below_step (by repeat (first | (with_reducible first | exact HB.out | apply below_alloc | apply pw_below_drewN | apply below_drew1 | refine below_set ?_ GE549.out | refine below_set ?_ GE550.out) | exact HB.out)) hb); have n5_ := Aside0.mk (hbox); have n6_ := Aside0.mk ((by rw [hg]; exact (below_size (by repeat (first | (with_reducible first | exact HB.out | apply below_alloc | apply pw_below_drewN | apply below_drew1 | refine below_set ?_ GE549.out | refine below_set ?_ GE550.out) | exact HB.out))) : w.heap.size ≤ gb561)); have n7_ := Aside0.mk ((by rw [hg]; exact (below_size (by repeat (first | (with_reducible first | exact HB.out | apply below_alloc | apply pw_below_drewN | apply below_drew1 | refine below_set ?_ GE549.out | refine below_set ?_ GE550.out) | exact HB.out))) : w.heap.size ≤ gb561)); have n8_ := Aside0.mk ((by rw [hg]; exact Nat.ne_of_lt (blk_lt (g := gb549) (o := .cells #[.int .i64 a0_0, .int .i64 a0_1, .string a0_2, .slice A0_3 l0_3.length c0_3, .slice A0_4 l0_4.length c0_4] 25 (0, 0)) (by (with_reducible repeat (first | refine blk_drewN ?_ _ | refine blk_drew ?_ | refine blk_alloc ?_ _)); exact BK549.out)) : gb549 ≠ gb561)); have n9_ := Aside0.mk ((by rw [hg]; exact Nat.ne_of_gt (blk_lt (g := gb549) (o := .cells #[.int .i64 a0_0, .int .i64 a0_1, .string a0_2, .slice A0_3 l0_3.length c0_3, .slice A0_4 l0_4.length c0_4] 25 (0, 0)) (by (with_reducible repeat (first | refine blk_drewN ?_ _ | refine blk_drew ?_ | refine blk_alloc ?_ _)); exact BK549.out)) : gb561 ≠ gb549)); have n10_ := Aside0.mk ((by rw [hg]; exact Nat.ne_of_lt (blk_lt (g := gb550) (o := .cells #[.string a1_0, .int .i64 a1_1, .bool true, .int .i64 a1_3, .bool a1_4] 48 (0, 0)) (by (with_reducible repeat (first | refine blk_drewN ?_ _ | refine blk_drew ?_ | refine blk_alloc ?_ _)); exact BK550.out)) : gb550 ≠ gb561)); have n11_ := Aside0.mk ((by rw [hg]; exact Nat.ne_of_gt (blk_lt (g := gb550) (o := .cells #[.string a1_0, .int .i64 a1_1, .bool true, .int .i64 a1_3, .bool a1_4] 48 (0, 0)) (by (with_reducible repeat (first | refine blk_drewN ?_ _ | refine blk_drew ?_ | refine blk_alloc ?_ _)); exact BK550.out)) : gb561 ≠ gb550)); clear HO556; clear HO559; clear BK549; clear BK550; clear HB; have HO556 := n0_; have HO559 := n1_; have BK549 := n2_; have BK550 := n3_; have HB := n4_; have BK561 := n5_; have GW561 := n6_; have GE561 := n7_; have NB549_561 := n8_; have NB561_549 := n9_; have NB550_561 := n10_; have NB561_550 := n11_; clear n0_ n1_ n2_ n3_ n4_ n5_ n6_ n7_ n8_ n9_ n10_ n11_; clear hb hbox hg; have hnb97 := NB561_549.out; have hnc97 := NB549_561.out; have hnb98 := NB561_550.out; have hnc98 := NB550_561.out; have hcz99_0 : w96.cell? ⟨gb561, 0, none⟩ = some (.int .i64 0) := (blk_cell BK561.out 0).trans rfl; have hcz99_1 : w96.cell? ⟨gb561, 1, none⟩ = some (.int .i64 0) := (blk_cell BK561.out 1).trans rfl; have hcz99_2 : w96.cell? ⟨gb561, 2, none⟩ = some (.string (⟨#[]⟩ : ByteArray)) := (blk_cell BK561.out 2).trans rfl; have hcz99_3 : w96.cell? ⟨gb561, 3, none⟩ = some (.slice none 0 0) := (blk_cell BK561.out 3).trans rfl; have hcz99_4 : w96.cell? ⟨gb561, 4, none⟩ = some (.slice none 0 0) := (blk_cell BK561.out 4).trans rfl; have hfz99_0 := blk_frozen BK561.out 0; have hfz99_1 := blk_frozen BK561.out 1; have hfz99_2 := blk_frozen BK561.out 2; have hfz99_3 := blk_frozen BK561.out 3; have hfz99_4 := blk_frozen BK561.out 4; obtain ⟨Ao100, co100, eo100⟩ := Kd.V_slice HO556.out; subst eo100; obtain ⟨Ao101, co101, eo101⟩ := Kd.V_slice HO559.out; subst eo101; have hcz102_0 : w96.cell? ⟨gb550, 0, none⟩ = some (.string a1_0) := (blk_cell BK550.out 0).trans rfl; have hcz102_1 : w96.cell? ⟨gb550, 1, none⟩ = some (.int .i64 a1_1) := (blk_cell BK550.out 1).trans rfl; have hcz102_2 : w96.cell? ⟨gb550, 2, none⟩ = some (.bool true) := (blk_cell BK550.out 2).trans rfl; have hcz102_3 : w96.cell? ⟨gb550, 3, none⟩ = some (.int .i64 a1_3) := (blk_cell BK550.out 3).trans rfl; have hcz102_4 : w96.cell? ⟨gb550, 4, none⟩ = some (.bool a1_4) := (blk_cell BK550.out 4).trans rfl; have hfz102_0 := blk_frozen BK550.out 0; have hfz102_1 := blk_frozen BK550.out 1; have hfz102_2 := blk_frozen BK550.out 2; have hfz102_3 := blk_frozen BK550.out 3; have hfz102_4 := blk_frozen BK550.out 4))
      go_ret
      exact ⟨by first | rfl | (simp [errW_none, errW_some] <;> rfl) | (simp [*, errW_none, errW_some] <;> rfl), by repeat (first | (with_reducible first | exact HB.out | apply below_alloc | apply pw_below_drewN | apply below_drew1 | refine below_set ?_ GE549.out | refine below_set ?_ GE550.out | refine below_set ?_ GE561.out) | exact HB.out)⟩
    · replace c89 := Bool.eq_false_iff.mpr c89
      subst c89
      have H1 : (some 0) = some r := by rw [if_neg (show ¬ (false = true) by decide)] at H; exact H
      clear H
      have H := H1
      clear H1
      obtain rfl := Option.some.inj H
      go_enter Try.func80, Try.ntmps80
      go_wp2_with (first | ((with_reducible refine gate_dst (N := 2) rfl ?_); (try (refine gate_guard (by rfl) ?_; dsimp only)); refine box_event ?hg (N := 2) ?hd (cs := #[.int .i64 a0_0, .int .i64 a0_1, .string a0_2, .slice A0_3 l0_3.length c0_3, .slice A0_4 l0_4.length c0_4]) (t := 25) ?hr ?_; (case hd => rfl); (case hg => rfl); (case hr => first | (go_simp; done) | (go_simp; rfl)); intro gb549 hg w103 hbox hb; have n0_ := Aside0.mk (below_step (by repeat (first | (with_reducible first | exact HB.out | apply below_alloc | apply pw_below_drewN | apply below_drew1) | exact HB.out)) hb); have n1_ := Aside0.mk (hbox); have n2_ := Aside0.mk ((by rw [hg]; exact (below_size (by repeat (first | (with_reducible first | exact HB.out | apply below_alloc | apply pw_below_drewN | apply below_drew1) | exact HB.out))) : w.heap.size ≤ gb549)); have n3_ := Aside0.mk ((by rw [hg]; exact (below_size (by repeat (first | (with_reducible first | exact HB.out | apply below_alloc | apply pw_below_drewN | apply below_drew1) | exact HB.out))) : w.heap.size ≤ gb549)); clear HB; have HB := n0_; have BK549 := n1_; have GW549 := n2_; have GE549 := n3_; clear n0_ n1_ n2_ n3_; clear hb hbox hg) | ((with_reducible refine gate_dst (N := 3) rfl ?_); (try (refine gate_guard (by rfl) ?_; dsimp only)); refine box_event ?hg (N := 3) ?hd (cs := #[.string a1_0, .int .i64 a1_1, .bool false, .int .i64 a1_3, .bool a1_4]) (t := 48) ?hr ?_; (case hd => rfl); (case hg => rfl); (case hr => first | (go_simp; done) | (go_simp; rfl)); intro gb550 hg w104 hbox hb; have n0_ := Aside0.mk (blk_below (g := gb549) (o := .cells #[.int .i64 a0_0, .int .i64 a0_1, .string a0_2, .slice A0_3 l0_3.length c0_3, .slice A0_4 l0_4.length c0_4] 25 (0, 0)) (by (with_reducible repeat (first | refine blk_drewN ?_ _ | refine blk_drew ?_ | refine blk_alloc ?_ _)); exact BK549.out) hb); have n1_ := Aside0.mk (below_step (by repeat (first | (with_reducible first | exact HB.out | apply below_alloc | apply pw_below_drewN | apply below_drew1 | refine below_set ?_ GE549.out) | exact HB.out)) hb); have n2_ := Aside0.mk (hbox); have n3_ := Aside0.mk ((by rw [hg]; exact (below_size (by repeat (first | (with_reducible first | exact HB.out | apply below_alloc | apply pw_below_drewN | apply below_drew1 | refine below_set ?_ GE549.out) | exact HB.out))) : w.heap.size ≤ gb550)); have n4_ := Aside0.mk ((by rw [hg]; exact (below_size (by repeat (first | (with_reducible first | exact HB.out | apply below_alloc | apply pw_below_drewN | apply below_drew1 | refine below_set ?_ GE549.out) | exact HB.out))) : w.heap.size ≤ gb550)); have n5_ := Aside0.mk ((by rw [hg]; exact Nat.ne_of_lt (blk_lt (g := gb549) (o := .cells #[.int .i64 a0_0, .int .i64 a0_1, .string a0_2, .slice A0_3 l0_3.length c0_3, .slice A0_4 l0_4.length c0_4] 25 (0, 0)) (by (with_reducible repeat (first | refine blk_drewN ?_ _ | refine blk_drew ?_ | refine blk_alloc ?_ _)); exact BK549.out)) : gb549 ≠ gb550)); have n6_ := Aside0.mk ((by rw [hg]; exact Nat.ne_of_gt (blk_lt (g := gb549) (o := .cells #[.int .i64 a0_0, .int .i64 a0_1, .string a0_2, .slice A0_3 l0_3.length c0_3, .slice A0_4 l0_4.length c0_4] 25 (0, 0)) (by (with_reducible repeat (first | refine blk_drewN ?_ _ | refine blk_drew ?_ | refine blk_alloc ?_ _)); exact BK549.out)) : gb550 ≠ gb549)); clear BK549; clear HB; have BK549 := n0_; have HB := n1_; have BK550 := n2_; have GW550 := n3_; have GE550 := n4_; have NB549_550 := n5_; have NB550_549 := n6_; clear n0_ n1_ n2_ n3_ n4_ n5_ n6_; clear hb hbox hg; have hnb105 := NB549_550.out; have hnc105 := NB550_549.out; have hcz106_0 : w104.cell? ⟨gb549, 0, none⟩ = some (.int .i64 a0_0) := (blk_cell BK549.out 0).trans rfl; have hcz106_1 : w104.cell? ⟨gb549, 1, none⟩ = some (.int .i64 a0_1) := (blk_cell BK549.out 1).trans rfl; have hcz106_2 : w104.cell? ⟨gb549, 2, none⟩ = some (.string a0_2) := (blk_cell BK549.out 2).trans rfl; have hcz106_3 : w104.cell? ⟨gb549, 3, none⟩ = some (.slice A0_3 l0_3.length c0_3) := (blk_cell BK549.out 3).trans rfl; have hcz106_4 : w104.cell? ⟨gb549, 4, none⟩ = some (.slice A0_4 l0_4.length c0_4) := (blk_cell BK549.out 4).trans rfl; have hfz106_0 := blk_frozen BK549.out 0; have hfz106_1 := blk_frozen BK549.out 1; have hfz106_2 := blk_frozen BK549.out 2; have hfz106_3 := blk_frozen BK549.out 3; have hfz106_4 := blk_frozen BK549.out 4; have hcz107_0 : w104.cell? ⟨gb550, 0, none⟩ = some (.string a1_0) := (blk_cell BK550.out 0).trans rfl; have hcz107_1 : w104.cell? ⟨gb550, 1, none⟩ = some (.int .i64 a1_1) := (blk_cell BK550.out 1).trans rfl; have hcz107_2 : w104.cell? ⟨gb550, 2, none⟩ = some (.bool false) := (blk_cell BK550.out 2).trans rfl; have hcz107_3 : w104.cell? ⟨gb550, 3, none⟩ = some (.int .i64 a1_3) := (blk_cell BK550.out 3).trans rfl; have hcz107_4 : w104.cell? ⟨gb550, 4, none⟩ = some (.bool a1_4) := (blk_cell BK550.out 4).trans rfl; have hfz107_0 := blk_frozen BK550.out 0; have hfz107_1 := blk_frozen BK550.out 1; have hfz107_2 := blk_frozen BK550.out 2; have hfz107_3 := blk_frozen BK550.out 3; have hfz107_4 := blk_frozen BK550.out 4) | ((with_reducible refine gate_callee (f := 62) rfl ?_); refine goesL_ (some 11) rfl rfl Try.func62 (by kernel_rfl) rfl #[.agg #[.int .i64 a0_0, .int .i64 a0_1, .string a0_2, .slice A0_3 l0_3.length c0_3, .slice A0_4 l0_4.length c0_4], .string a1_0] rfl (by (try simp only [List.map_toArray, List.map_cons, List.map_nil]); first | done | rfl | (simp only [List.length_drop, List.length_take]; rfl)) ?_; (with_reducible refine (sealringref07_Get.calls k a0_0 a0_1 a0_2 _ _ l0_3 (fun k_ => k_ < w.heap.size) _ _ l0_4 a1_0 t551 t552 t553 t554 t557 false _ ?side1 ?side2 ?side3 A3.out).mono ?_); (case side1 => repeat (first | exact (Kd.C_below HR0_3.out HB.out) | (with_reducible refine Kd.C_alloc ?_ _) | (with_reducible refine Kd.C_drewN ?_ _) | (with_reducible refine Kd.C_drew ?_))); (case side2 => exact HC0_3.out); (case side3 => exact Kd.V_mk HC0_4.out (Kd.F_below (Kd.C_F k25_heap HR0_4.out) (by repeat (first | (with_reducible first | exact HB.out | apply below_alloc | apply pw_below_drewN | apply below_drew1 | refine below_set ?_ GE549.out | refine below_set ?_ GE550.out) | exact HB.out)))); rintro e w108 ⟨v555, v558, rfl, ho0, ho1, hb⟩; refine ⟨_, rfl, ?_⟩; have n0_ := Aside0.mk (Kd.V_lower (Kd.V_mono (ok' := fun k_ => k_ ≠ gb549 ∧ k_ ≠ gb550) ho0 (fun k_ hk_ => ⟨Or.elim hk_ (fun hs_ => fun e_ => Nat.not_le.2 hs_ (by rw [e_]; exact GW549.out)) (fun hn_ => (Kd.freshB (g := gb549) (o := .cells #[.int .i64 a0_0, .int .i64 a0_1, .string a0_2, .slice A0_3 l0_3.length c0_3, .slice A0_4 l0_4.length c0_4] 25 (0, 0)) (by (with_reducible repeat (first | refine blk_drewN ?_ _ | refine blk_drew ?_ | refine blk_alloc ?_ _)); exact BK549.out) k_ hn_)), Or.elim hk_ (fun hs_ => fun e_ => Nat.not_le.2 hs_ (by rw [e_]; exact GW550.out)) (fun hn_ => (Kd.freshB (g := gb550) (o := .cells #[.string a1_0, .int .i64 a1_1, .bool false, .int .i64 a1_3, .bool a1_4] 48 (0, 0)) (by (with_reducible repeat (first | refine blk_drewN ?_ _ | refine blk_drew ?_ | refine blk_alloc ?_ _)); exact BK550.out) k_ hn_))⟩)) (below_size (by repeat (first | (with_reducible first | exact HB.out | apply below_alloc | apply pw_below_drewN | apply below_drew1 | refine below_set ?_ GE549.out | refine below_set ?_ GE550.out) | exact HB.out)))); have n1_ := Aside0.mk (Kd.V_lower (Kd.V_mono (ok' := fun k_ => k_ ≠ gb549 ∧ k_ ≠ gb550) ho1 (fun k_ hk_ => ⟨Or.elim hk_ (fun hs_ => fun e_ => Nat.not_le.2 hs_ (by rw [e_]; exact GW549.out)) (fun hn_ => (Kd.freshB (g := gb549) (o := .cells #[.int .i64 a0_0, .int .i64 a0_1, .string a0_2, .slice A0_3 l0_3.length c0_3, .slice A0_4 l0_4.length c0_4] 25 (0, 0)) (by (with_reducible repeat (first | refine blk_drewN ?_ _ | refine blk_drew ?_ | refine blk_alloc ?_ _)); exact BK549.out) k_ hn_)), Or.elim hk_ (fun hs_ => fun e_ => Nat.not_le.2 hs_ (by rw [e_]; exact GW550.out)) (fun hn_ => (Kd.freshB (g := gb550) (o := .cells #[.string a1_0, .int .i64 a1_1, .bool false, .int .i64 a1_3, .bool a1_4] 48 (0, 0)) (by (with_reducible repeat (first | refine blk_drewN ?_ _ | refine blk_drew ?_ | refine blk_alloc ?_ _)); exact BK550.out) k_ hn_))⟩)) (below_size (by repeat (first | (with_reducible first | exact HB.out | apply below_alloc | apply pw_below_drewN | apply below_drew1 | refine below_set ?_ GE549.out | refine below_set ?_ GE550.out) | exact HB.out)))); have n2_ := Aside0.mk (blk_below (g := gb549) (o := .cells #[.int .i64 a0_0, .int .i64 a0_1, .string a0_2, .slice A0_3 l0_3.length c0_3, .slice A0_4 l0_4.length c0_4] 25 (0, 0)) (by (with_reducible repeat (first | refine blk_drewN ?_ _ | refine blk_drew ?_ | refine blk_alloc ?_ _)); exact BK549.out) hb); have n3_ := Aside0.mk (blk_below (g := gb550) (o := .cells #[.string a1_0, .int .i64 a1_1, .bool false, .int .i64 a1_3, .bool a1_4] 48 (0, 0)) (by (with_reducible repeat (first | refine blk_drewN ?_ _ | refine blk_drew ?_ | refine blk_alloc ?_ _)); exact BK550.out) hb); have n4_ := Aside0.mk (below_step (by repeat (first | (with_reducible first | exact HB.out | apply below_alloc | apply pw_below_drewN | apply below_drew1 | refine below_set ?_ GE549.out | refine below_set ?_ GE550.out) | exact HB.out)) hb); clear BK549; clear BK550; clear HB; have HO556 := n0_; have HO559 := n1_; have BK549 := n2_; have BK550 := n3_; have HB := n4_; clear n0_ n1_ n2_ n3_ n4_; (try clear hb); (try clear hb2); (try clear hk); (try clear hi); (try clear ho0); (try clear ho1)) | ((with_reducible refine gate_dst (N := 5) rfl ?_); (try (refine gate_guard (by rfl) ?_; dsimp only)); refine box_event ?hg (N := 5) ?hd (cs := #[.int .i64 0, .int .i64 0, .string (⟨#[]⟩ : ByteArray), .slice none 0 0, .slice none 0 0]) (t := 25) ?hr ?_; (case hd => rfl); (case hg => rfl); (case hr => first | (go_simp; done) | (go_simp; rfl)); intro gb561 hg w109 hbox hb; have n0_ := Aside0.mk (Kd.V_below (Kd.V_elderB (by (with_reducible repeat (first | apply Kd.V_alloc | apply Kd.V_drewN | apply Kd.V_drew)); exact HO556.out) gb561 (Nat.le_of_eq hg.symm)) hb); have n1_ := Aside0.mk (Kd.V_below (Kd.V_elderB (by (with_reducible repeat (first | apply Kd.V_alloc | apply Kd.V_drewN | apply Kd.V_drew)); exact HO559.out) gb561 (Nat.le_of_eq hg.symm)) hb); have n2_ := Aside0.mk (blk_below (g := gb549) (o := .cells #[.int .i64 a0_0, .int .i64 a0_1, .string a0_2, .slice A0_3 l0_3.length c0_3, .slice A0_4 l0_4.length c0_4] 25 (0, 0)) (by (with_reducible repeat (first | refine blk_drewN ?_ _ | refine blk_drew ?_ | refine blk_alloc ?_ _)); exact BK549.out) hb); have n3_ := Aside0.mk (blk_below (g := gb550) (o := .cells #[.string a1_0, .int .i64 a1_1, .bool false, .int .i64 a1_3, .bool a1_4] 48 (0, 0)) (by (with_reducible repeat (first | refine blk_drewN ?_ _ | refine blk_drew ?_ | refine blk_alloc ?_ _)); exact BK550.out) hb); have n4_ := Aside0.mk (below_step (by repeat (first | (with_reducible first | exact HB.out | apply below_alloc | apply pw_below_drewN | apply below_drew1 | refine below_set ?_ GE549.out | refine below_set ?_ GE550.out) | exact HB.out)) hb); have n5_ := Aside0.mk (hbox); have n6_ := Aside0.mk ((by rw [hg]; exact (below_size (by repeat (first | (with_reducible first | exact HB.out | apply below_alloc | apply pw_below_drewN | apply below_drew1 | refine below_set ?_ GE549.out | refine below_set ?_ GE550.out) | exact HB.out))) : w.heap.size ≤ gb561)); have n7_ := Aside0.mk ((by rw [hg]; exact (below_size (by repeat (first | (with_reducible first | exact HB.out | apply below_alloc | apply pw_below_drewN | apply below_drew1 | refine below_set ?_ GE549.out | refine below_set ?_ GE550.out) | exact HB.out))) : w.heap.size ≤ gb561)); have n8_ := Aside0.mk ((by rw [hg]; exact Nat.ne_of_lt (blk_lt (g := gb549) (o := .cells #[.int .i64 a0_0, .int .i64 a0_1, .string a0_2, .slice A0_3 l0_3.length c0_3, .slice A0_4 l0_4.length c0_4] 25 (0, 0)) (by (with_reducible repeat (first | refine blk_drewN ?_ _ | refine blk_drew ?_ | refine blk_alloc ?_ _)); exact BK549.out)) : gb549 ≠ gb561)); have n9_ := Aside0.mk ((by rw [hg]; exact Nat.ne_of_gt (blk_lt (g := gb549) (o := .cells #[.int .i64 a0_0, .int .i64 a0_1, .string a0_2, .slice A0_3 l0_3.length c0_3, .slice A0_4 l0_4.length c0_4] 25 (0, 0)) (by (with_reducible repeat (first | refine blk_drewN ?_ _ | refine blk_drew ?_ | refine blk_alloc ?_ _)); exact BK549.out)) : gb561 ≠ gb549)); have n10_ := Aside0.mk ((by rw [hg]; exact Nat.ne_of_lt (blk_lt (g := gb550) (o := .cells #[.string a1_0, .int .i64 a1_1, .bool false, .int .i64 a1_3, .bool a1_4] 48 (0, 0)) (by (with_reducible repeat (first | refine blk_drewN ?_ _ | refine blk_drew ?_ | refine blk_alloc ?_ _)); exact BK550.out)) : gb550 ≠ gb561)); have n11_ := Aside0.mk ((by rw [hg]; exact Nat.ne_of_gt (blk_lt (g := gb550) (o := .cells #[.string a1_0, .int .i64 a1_1, .bool false, .int .i64 a1_3, .bool a1_4] 48 (0, 0)) (by (with_reducible repeat (first | refine blk_drewN ?_ _ | refine blk_drew ?_ | refine blk_alloc ?_ _)); exact BK550.out)) : gb561 ≠ gb550)); clear HO556; clear HO559; clear BK549; clear BK550; clear HB; have HO556 := n0_; have HO559 := n1_; have BK549 := n2_; have BK550 := n3_; have HB := n4_; have BK561 := n5_; have GW561 := n6_; have GE561 := n7_; have NB549_561 := n8_; have NB561_549 := n9_; have NB550_561 := n10_; have NB561_550 := n11_; clear n0_ n1_ n2_ n3_ n4_ n5_ n6_ n7_ n8_ n9_ n10_ n11_; clear hb hbox hg; have hnb110 := NB561_549.out; have hnc110 := NB549_561.out; have hnb111 := NB561_550.out; have hnc111 := NB550_561.out; have hcz112_0 : w109.cell? ⟨gb561, 0, none⟩ = some (.int .i64 0) := (blk_cell BK561.out 0).trans rfl; have hcz112_1 : w109.cell? ⟨gb561, 1, none⟩ = some (.int .i64 0) := (blk_cell BK561.out 1).trans rfl; have hcz112_2 : w109.cell? ⟨gb561, 2, none⟩ = some (.string (⟨#[]⟩ : ByteArray)) := (blk_cell BK561.out 2).trans rfl; have hcz112_3 : w109.cell? ⟨gb561, 3, none⟩ = some (.slice none 0 0) := (blk_cell BK561.out 3).trans rfl; have hcz112_4 : w109.cell? ⟨gb561, 4, none⟩ = some (.slice none 0 0) := (blk_cell BK561.out 4).trans rfl; have hfz112_0 := blk_frozen BK561.out 0; have hfz112_1 := blk_frozen BK561.out 1; have hfz112_2 := blk_frozen BK561.out 2; have hfz112_3 := blk_frozen BK561.out 3; have hfz112_4 := blk_frozen BK561.out 4; obtain ⟨Ao113, co113, eo113⟩ := Kd.V_slice HO556.out; subst eo113; obtain ⟨Ao114, co114, eo114⟩ := Kd.V_slice HO559.out; subst eo114; have hcz115_0 : w109.cell? ⟨gb550, 0, none⟩ = some (.string a1_0) := (blk_cell BK550.out 0).trans rfl; have hcz115_1 : w109.cell? ⟨gb550, 1, none⟩ = some (.int .i64 a1_1) := (blk_cell BK550.out 1).trans rfl; have hcz115_2 : w109.cell? ⟨gb550, 2, none⟩ = some (.bool false) := (blk_cell BK550.out 2).trans rfl; have hcz115_3 : w109.cell? ⟨gb550, 3, none⟩ = some (.int .i64 a1_3) := (blk_cell BK550.out 3).trans rfl; have hcz115_4 : w109.cell? ⟨gb550, 4, none⟩ = some (.bool a1_4) := (blk_cell BK550.out 4).trans rfl; have hfz115_0 := blk_frozen BK550.out 0; have hfz115_1 := blk_frozen BK550.out 1; have hfz115_2 := blk_frozen BK550.out 2; have hfz115_3 := blk_frozen BK550.out 3; have hfz115_4 := blk_frozen BK550.out 4))
      go_ret
      exact ⟨by first | rfl | (simp [errW_none, errW_some] <;> rfl) | (simp [*, errW_none, errW_some] <;> rfl), by repeat (first | (with_reducible first | exact HB.out | apply below_alloc | apply pw_below_drewN | apply below_drew1 | refine below_set ?_ GE549.out | refine below_set ?_ GE550.out | refine below_set ?_ GE561.out) | exact HB.out)⟩
end Go.Proofs.Ytbnmcnghmnhigaa.X
end
section
namespace Go.Proofs.Ytbnmcnghmnhigaa.X
open Go.RowKit Go.Proofs.YtbnmcnghmnhigaaW.PrintWords Go.Proofs.YtbnmcnghmnhigaaW.PrintLast Go.Proofs.YtbnmcnghmnhigaaW.PrintMore
attribute [local go_sem] max2_int min2_int max_two min_two max_three min_three max_four min_four
set_option linter.unusedVariables false
set_option linter.unusedSimpArgs false
def sealringref29_Check.l0 : Nat → List (S48) → Int → Int → Int → ByteArray → List ByteArray → List (S25) → Option (ByteArray × Int)
  | 0, _, _, _, _, _, _, _ => none
  | k + 1, x1, x6, x563000, x563001, x563002, x563003, x563004 => if x6 < (x1.length : Int) then (if 0 ≤ x6 then ((sealringref29_One.f k x563000 x563001 x563002 x563003 x563004 ((rd_T48 x1 x6).f0) ((rd_T48 x1 x6).f1) ((rd_T48 x1 x6).f2) ((rd_T48 x1 x6).f3) ((rd_T48 x1 x6).f4)).bind fun t564 => (if t564 = 0 then (sealringref29_Check.l0 k x1 (wrap64 (x6 + 1)) x563000 x563001 x563002 x563003 x563004) else (some ((rd_T48 x1 x6).f0, t564)))) else (none)) else (some ((⟨#[]⟩ : ByteArray), 0))
def sealringref29_Check.f (k : Nat) (a0_0 : Int) (a0_1 : Int) (a0_2 : ByteArray) (l0_3 : List ByteArray) (l0_4 : List (S25)) (l1 : List (S48)) : Option (ByteArray × Int) := if a0_0 = 6 then (sealringref29_Check.l0 k l1 0 a0_0 a0_1 a0_2 l0_3 l0_4) else (some ((⟨#[]⟩ : ByteArray), 16))
theorem sealringref29_Check.mono_l : ∀ k, (∀ y0 y1 y2 y3 y4 y5 y6, LeO (sealringref29_Check.l0 k y0 y1 y2 y3 y4 y5 y6) (sealringref29_Check.l0 (k + 1) y0 y1 y2 y3 y4 y5 y6))
  | 0 => fun _ _ _ _ _ _ _ r h => by simp [sealringref29_Check.l0] at h
  | k + 1 => by
    have ih0 := sealringref29_Check.mono_l k
    · intro y0 y1 y2 y3 y4 y5 y6
      unfold sealringref29_Check.l0
      repeat' first
      | (with_reducible exact ih0 _ _ _ _ _ _ _)
      | (with_reducible exact sealringref29_One.mono _ _ _ _ _ _ _ _ _ _ _)
      | (with_reducible exact LeO.refl _)
      | (with_reducible exact LeO.none _)
      | (with_reducible refine LeO.ite ?_ ?_)
      | (with_reducible refine LeO.bind ?_ (fun _ => ?_))
      | exact ih0 _ _ _ _ _ _ _
      | exact sealringref29_One.mono _ _ _ _ _ _ _ _ _ _ _
      | exact LeO.none _
      | refine LeO.ite ?_ ?_
      | refine LeO.bind ?_ (fun _ => ?_)
theorem sealringref29_Check.mono : ∀ a0 a1 a2 a3 a4 a5 k, LeO (sealringref29_Check.f k a0 a1 a2 a3 a4 a5) (sealringref29_Check.f (k + 1) a0 a1 a2 a3 a4 a5) := by
  intro a0 a1 a2 a3 a4 a5 k
  have ih0 := sealringref29_Check.mono_l k
  unfold sealringref29_Check.f
  repeat' first
      | (with_reducible exact ih0 _ _ _ _ _ _ _)
      | (with_reducible exact sealringref29_One.mono _ _ _ _ _ _ _ _ _ _ _)
      | (with_reducible exact LeO.refl _)
      | (with_reducible exact LeO.none _)
      | (with_reducible refine LeO.ite ?_ ?_)
      | (with_reducible refine LeO.bind ?_ (fun _ => ?_))
      | exact ih0 _ _ _ _ _ _ _
      | exact sealringref29_One.mono _ _ _ _ _ _ _ _ _ _ _
      | exact LeO.none _
      | refine LeO.ite ?_ ?_
      | refine LeO.bind ?_ (fun _ => ?_)
set_option maxHeartbeats 8000000 in
set_option maxRecDepth 100000 in
theorem sealringref29_Check.calls (k : Nat) (a0_0 : Int) (a0_1 : Int) (a0_2 : ByteArray) (A0_3 : Option Addr) (c0_3 : Nat) (l0_3 : List ByteArray) (A0_4 : Option Addr) (c0_4 : Nat) (l0_4 : List (S25)) (A1 : Option Addr) (c1 : Nat) (l1 : List (S48)) (r1 : ByteArray) (r2 : Int) (w : World) (hr0_3 : Kd.C Kd.string w A0_3 l0_3.length l0_3) (hc0_3 : l0_3.length ≤ c0_3) (hr0_4 : Kd.C k25 w A0_4 l0_4.length l0_4) (hc0_4 : l0_4.length ≤ c0_4) (hr1 : Kd.C k48 w A1 l1.length l1) (hc1 : l1.length ≤ c1) (h : sealringref29_Check.f k a0_0 a0_1 a0_2 l0_3 l0_4 l1 = some (r1, r2)) :
    Calls Try.prog 31 #[.agg #[.int .i64 a0_0, .int .i64 a0_1, .string a0_2, .slice A0_3 l0_3.length c0_3, .slice A0_4 l0_4.length c0_4], .slice A1 l1.length c1] w fun e w' => e = .returned (.tuple #[.string r1, .int .i64 r2]) ∧ Below w.heap.size w w' := by
  have hu25 := Try.underlying25
  have hu48 := Try.underlying48
  have HR0_3 := Aside0.mk hr0_3
  have HC0_3 := Aside0.mk hc0_3
  clear hr0_3 hc0_3
  have HR0_4 := Aside0.mk hr0_4
  have HC0_4 := Aside0.mk hc0_4
  clear hr0_4 hc0_4
  have HR1 := Aside0.mk hr1
  have HC1 := Aside0.mk hc1
  clear hr1 hc1
  have HB := Aside0.mk (Below.refl w.heap.size w)
  have H : (if a0_0 = 6 then (sealringref29_Check.l0 k l1 0 a0_0 a0_1 a0_2 l0_3 l0_4) else (some ((⟨#[]⟩ : ByteArray), 16))) = some (r1, r2) := h
  clear h
  by_cases c3 : a0_0 = 6
  · rw [if_pos c3] at H
    have c3b0 : (a0_0 == 6) = true := beq_iff_eq.mpr c3
    have c3b1 : (a0_0 != 6) = false := bne_eq_false_iff_eq.mpr c3
    clear c3
    have H' := Aside0.mk H
    clear H
    go_enter Try.func31, Try.ntmps31
    go_wp2_with (first | ((with_reducible refine gate_dst (N := 2) rfl ?_); refine box_event ?hg (N := 2) ?hd (cs := #[.int .i64 a0_0, .int .i64 a0_1, .string a0_2, .slice A0_3 l0_3.length c0_3, .slice A0_4 l0_4.length c0_4]) (t := 25) ?hr ?_; (case hd => rfl); (case hg => rfl); (case hr => first | (go_simp; done) | (go_simp; rfl)); intro gb562 hg w4 hbox hb; have n0_ := Aside0.mk (below_step (by repeat (first | (with_reducible first | exact HB.out | apply below_alloc | apply pw_below_drewN | apply below_drew1) | exact HB.out)) hb); have n1_ := Aside0.mk (hbox); have n2_ := Aside0.mk ((by rw [hg]; exact (below_size (by repeat (first | (with_reducible first | exact HB.out | apply below_alloc | apply pw_below_drewN | apply below_drew1) | exact HB.out))) : w.heap.size ≤ gb562)); have n3_ := Aside0.mk ((by rw [hg]; exact (below_size (by repeat (first | (with_reducible first | exact HB.out | apply below_alloc | apply pw_below_drewN | apply below_drew1) | exact HB.out))) : w.heap.size ≤ gb562)); clear HB; have HB := n0_; have BK562 := n1_; have GW562 := n2_; have GE562 := n3_; clear n0_ n1_ n2_ n3_; clear hb hbox hg; have hcz5_0 : w4.cell? ⟨gb562, 0, none⟩ = some (.int .i64 a0_0) := (blk_cell BK562.out 0).trans rfl; have hcz5_1 : w4.cell? ⟨gb562, 1, none⟩ = some (.int .i64 a0_1) := (blk_cell BK562.out 1).trans rfl; have hcz5_2 : w4.cell? ⟨gb562, 2, none⟩ = some (.string a0_2) := (blk_cell BK562.out 2).trans rfl; have hcz5_3 : w4.cell? ⟨gb562, 3, none⟩ = some (.slice A0_3 l0_3.length c0_3) := (blk_cell BK562.out 3).trans rfl; have hcz5_4 : w4.cell? ⟨gb562, 4, none⟩ = some (.slice A0_4 l0_4.length c0_4) := (blk_cell BK562.out 4).trans rfl; have hfz5_0 := blk_frozen BK562.out 0; have hfz5_1 := blk_frozen BK562.out 1; have hfz5_2 := blk_frozen BK562.out 2; have hfz5_3 := blk_frozen BK562.out 3; have hfz5_4 := blk_frozen BK562.out 4))
    go_loopg [6] k (fun kq v6 w' => ∃ (x6_1 : Int), v6 = .int .i64 x6_1 ∧ Aside0 (sealringref29_Check.l0 kq l1 x6_1 a0_0 a0_1 a0_2 l0_3 l0_4 = some (r1, r2)) ∧ Aside0 (kq ≤ k) ∧ Aside0 (w'.heap[gb562]? = some (.cells #[.int .i64 a0_0, .int .i64 a0_1, .string a0_2, (.slice A0_3 l0_3.length c0_3), (.slice A0_4 l0_4.length c0_4)] 25 (0, 0))) ∧ Aside0 (Below w.heap.size w w'))
    case atStart => exact ⟨(0), (by first | rfl | (simp; done) | (simp [*]; done)), (by first | with_reducible exact H' | exact H' | (subst_vars; exact H')), ⟨Nat.le_refl _⟩, ⟨by (with_reducible repeat (first | refine blk_drewN ?_ _ | refine blk_drew ?_ | refine blk_alloc ?_ _)); exact BK562.out⟩, ⟨by repeat (first | (with_reducible first | exact HB.out | apply below_alloc | apply pw_below_drewN | apply below_drew1 | refine below_set ?_ GE562.out) | exact HB.out)⟩⟩
    case round =>
      clear H'
      try clear c1
      try clear p2
      try clear c3
      try clear c3b0
      try clear c3b1
      try clear hcz5_0
      try clear hcz5_1
      try clear hcz5_2
      try clear hcz5_3
      try clear hcz5_4
      try clear hfz5_0
      try clear hfz5_1
      try clear hfz5_2
      try clear hfz5_3
      try clear hfz5_4
      obtain ⟨x6_1, rfl, HA, HK1, BK562, HB⟩ := hrel
      cases gk with
      | zero => exact absurd HA.out (by simp [sealringref29_Check.l0])
      | succ k1 =>
        have H := HA.out
        clear HA
        simp only [sealringref29_Check.l0] at H
        by_cases c6 : x6_1 < (l1.length : Int)
        · rw [if_pos c6] at H
          have c6b0 : decide (x6_1 < (l1.length : Int)) = true := decide_eq_true c6
          clear c6
          by_cases c7 : 0 ≤ x6_1
          · rw [if_pos c7] at H
            have c7b0 : decide (0 ≤ x6_1) = true := decide_eq_true c7
            clear c7
            replace H := Option.bind_eq_some_iff.mp H
            obtain ⟨t564, A80, H⟩ := H
            replace H : (if t564 = 0 then (sealringref29_Check.l0 k1 l1 (wrap64 (x6_1 + 1)) a0_0 a0_1 a0_2 l0_3 l0_4) else (some ((rd_T48 l1 x6_1).f0, t564))) = some (r1, r2) := H
            have A8 := Aside0.mk A80
            clear A80
            by_cases c9 : t564 = 0
            · rw [if_pos c9] at H
              have c9b0 : (t564 == 0) = true := beq_iff_eq.mpr c9
              have c9b1 : (t564 != 0) = false := bne_eq_false_iff_eq.mpr c9
              clear c9
              have H' := Aside0.mk H
              clear H
              try go_wp2
              have n0_ := Aside0.mk (blk_drew BK562.out)
              have n1_ := Aside0.mk (below_drew1 HB.out)
              clear BK562
              clear HB
              have BK562 := n0_
              have HB := n1_
              clear n0_ n1_
              have p563 : 0 ≤ (x6_1 : Int) := of_decide_eq_true (by first | (with_reducible assumption) | assumption)
              have q563 : x6_1 < (l1.length : Int) := of_decide_eq_true (by first | (with_reducible assumption) | assumption)
              obtain ⟨ad563, e563, hx563_0, hx563_1, hx563_2, hx563_3, hx563_4⟩ := at_T48 HR1.out x6_1 p563 q563
              have hw563_4 := hx563_4
              have hw563_3 := hx563_3
              have hw563_2 := hx563_2
              have hw563_1 := hx563_1
              have hw563_0 := hx563_0
              cases e563
              (try replace hx563_0 := (HB.out.cell (World.block_lt_of_cell? w _ hx563_0)).trans hx563_0)
              (try replace hx563_1 := (HB.out.cell (World.block_lt_of_cell? w _ hx563_1)).trans hx563_1)
              (try replace hx563_2 := (HB.out.cell (World.block_lt_of_cell? w _ hx563_2)).trans hx563_2)
              (try replace hx563_3 := (HB.out.cell (World.block_lt_of_cell? w _ hx563_3)).trans hx563_3)
              (try replace hx563_4 := (HB.out.cell (World.block_lt_of_cell? w _ hx563_4)).trans hx563_4)
              replace p563 := eq_true p563
              replace q563 := eq_true q563
              refine start_ (n := 7) (S := fun w' => w'.cell? ⟨gb562, 0, none⟩ = some (.int .i64 a0_0) ∧ w'.cell? ⟨gb562, 1, none⟩ = some (.int .i64 a0_1) ∧ w'.cell? ⟨gb562, 2, none⟩ = some (.string a0_2) ∧ w'.cell? ⟨gb562, 3, none⟩ = some (.slice A0_3 l0_3.length c0_3) ∧ w'.cell? ⟨gb562, 4, none⟩ = some (.slice A0_4 l0_4.length c0_4) ∧ w'.cell? (ad563.add ((x6_1).toNat * 5)) = some (.string ((rd_T48 l1 x6_1).f0)) ∧ w'.cell? ⟨(ad563.add ((x6_1).toNat * 5)).block, (ad563.add ((x6_1).toNat * 5)).off + 1, none⟩ = some (.int .i64 ((rd_T48 l1 x6_1).f1)) ∧ w'.cell? ⟨(ad563.add ((x6_1).toNat * 5)).block, (ad563.add ((x6_1).toNat * 5)).off + 2, none⟩ = some (.bool ((rd_T48 l1 x6_1).f2)) ∧ w'.cell? ⟨(ad563.add ((x6_1).toNat * 5)).block, (ad563.add ((x6_1).toNat * 5)).off + 3, none⟩ = some (.int .i64 ((rd_T48 l1 x6_1).f3)) ∧ w'.cell? ⟨(ad563.add ((x6_1).toNat * 5)).block, (ad563.add ((x6_1).toNat * 5)).off + 4, none⟩ = some (.bool ((rd_T48 l1 x6_1).f4))) (ds := []) #[false, false, false, false, false, false, false] (by kernel_rfl) rfl rfl ⟨(blk_cell BK562.out 0).trans rfl, (blk_cell BK562.out 1).trans rfl, (blk_cell BK562.out 2).trans rfl, (blk_cell BK562.out 3).trans rfl, (blk_cell BK562.out 4).trans rfl, ((HB.out.cell (World.block_lt_of_cell? w _ hw563_0)).trans hw563_0), ((HB.out.cell (World.block_lt_of_cell? w _ hw563_1)).trans hw563_1), ((HB.out.cell (World.block_lt_of_cell? w _ hw563_2)).trans hw563_2), ((HB.out.cell (World.block_lt_of_cell? w _ hw563_3)).trans hw563_3), ((HB.out.cell (World.block_lt_of_cell? w _ hw563_4)).trans hw563_4)⟩ (fun hHeld => ?_)
              generalize wr.drew = w10 at BK562 HB hx563_0 hx563_1 hx563_2 hx563_3 hx563_4 hHeld ⊢
              refine pure_ (i := 1) (N := some 18) (v := ?_) (a' := ?_) #[false, true, false, false, false, false, false] rfl rfl (by kernel_rfl) (fun _ _ _ h => h) (Or.inl ⟨by rfl, ?_⟩) ?_ ?_
              rotate_left
              · intro w'
                go_simp
                with_reducible rfl
              rotate_left
              · simp only [Act.put, List.setIfInBounds_toArray, List.set_cons_zero, List.set_cons_succ, i64_w, i32_w]
                rfl
              refine pure_ (i := 2) (N := some 19) (v := ?_) (a' := ?_) #[false, true, true, false, false, false, false] rfl rfl (by kernel_rfl) (fun _ _ _ h => h) (Or.inl ⟨by rfl, ?_⟩) ?_ ?_
              rotate_left
              · intro w'
                go_simp
                with_reducible rfl
              rotate_left
              · simp only [Act.put, List.setIfInBounds_toArray, List.set_cons_zero, List.set_cons_succ, i64_w, i32_w]
                rfl
              refine pure_ (i := 3) (N := some 20) (v := ?_) (a' := ?_) #[false, true, true, true, false, false, false] rfl rfl (by kernel_rfl) (fun _ _ _ h => h) (Or.inl ⟨by rfl, ?_⟩) ?_ ?_
              rotate_left
              · intro w'
                go_simp
                with_reducible rfl
              rotate_left
              · simp only [Act.put, List.setIfInBounds_toArray, List.set_cons_zero, List.set_cons_succ, i64_w, i32_w]
                rfl
              refine take_ (i := 0) (N := some 17) (v := ?_) (a' := ?_) #[true, true, true, true, false, false, false] rfl rfl (by kernel_rfl) (fun _ _ _ h => h) (Or.inl ⟨by rfl, ?_⟩) hHeld ?_ ?_
              rotate_left
              · rintro w' ⟨s0, s1, s2, s3, s4, s5, s6, s7, s8, s9⟩
                go_simp
                with_reducible rfl
              rotate_left
              · simp only [Act.put, List.setIfInBounds_toArray, List.set_cons_zero, List.set_cons_succ, i64_w, i32_w]
                rfl
              refine take_ (i := 4) (N := some 21) (v := ?_) (a' := ?_) #[true, true, true, true, true, false, false] rfl rfl (by kernel_rfl) (fun _ _ _ h => h) (Or.inl ⟨by rfl, ?_⟩) hHeld ?_ ?_
              rotate_left
              · rintro w' ⟨s0, s1, s2, s3, s4, s5, s6, s7, s8, s9⟩
                go_simp
                with_reducible rfl
              rotate_left
              · simp only [Act.put, List.setIfInBounds_toArray, List.set_cons_zero, List.set_cons_succ, i64_w, i32_w]
                rfl
              refine one_ (i := 5) (N := some 22) #[true, true, true, true, true, true, false] rfl rfl (by kernel_rfl) (by decide) (fun K hK => ?_)
              refine goes_ Try.func80 (by kernel_rfl) rfl #[.agg #[.int .i64 a0_0, .int .i64 a0_1, .string a0_2, .slice A0_3 l0_3.length c0_3, .slice A0_4 l0_4.length c0_4], .agg #[.string ((rd_T48 l1 x6_1).f0), .int .i64 ((rd_T48 l1 x6_1).f1), .bool ((rd_T48 l1 x6_1).f2), .int .i64 ((rd_T48 l1 x6_1).f3), .bool ((rd_T48 l1 x6_1).f4)]] (by rfl) rfl rfl (by (try simp only [List.map_toArray, List.map_cons, List.map_nil]); first | done | rfl | (simp only [List.length_drop, List.length_take]; rfl)) ?_
              with_reducible refine (sealringref29_One.calls k1 a0_0 a0_1 a0_2 _ _ l0_3 _ _ l0_4 ((rd_T48 l1 x6_1).f0) ((rd_T48 l1 x6_1).f1) ((rd_T48 l1 x6_1).f2) ((rd_T48 l1 x6_1).f3) ((rd_T48 l1 x6_1).f4) t564 _ ?side1 ?side2 ?side3 ?side4 A8.out).mono ?_
              (case side1 => repeat (first | exact (Kd.C_below HR0_3.out HB.out) | (with_reducible refine Kd.C_alloc ?_ _) | (with_reducible refine Kd.C_drewN ?_ _) | (with_reducible refine Kd.C_drew ?_)))
              (case side2 => exact HC0_3.out)
              (case side3 => repeat (first | exact (Kd.C_below HR0_4.out HB.out) | (with_reducible refine Kd.C_alloc ?_ _) | (with_reducible refine Kd.C_drewN ?_ _) | (with_reducible refine Kd.C_drew ?_)))
              (case side4 => exact HC0_4.out)
              rintro e w11 ⟨rfl, hb⟩
              refine ⟨_, rfl, ?_⟩
              have n0_ := Aside0.mk (blk_below (g := gb562) (o := .cells #[.int .i64 a0_0, .int .i64 a0_1, .string a0_2, .slice A0_3 l0_3.length c0_3, .slice A0_4 l0_4.length c0_4] 25 (0, 0)) (by (with_reducible repeat (first | refine blk_drewN ?_ _ | refine blk_drew ?_ | refine blk_alloc ?_ _)); exact BK562.out) hb)
              have n1_ := Aside0.mk (below_step (by repeat (first | (with_reducible first | exact HB.out | apply below_alloc | apply pw_below_drewN | apply below_drew1 | refine below_set ?_ GE562.out) | exact HB.out)) hb)
              clear BK562
              clear HB
              have BK562 := n0_
              have HB := n1_
              clear n0_ n1_
              (try clear hb)
              (try clear hb2)
              (try clear hk)
              (try clear hi)
              refine hK.out _ _ ⟨(blk_cell BK562.out 0).trans rfl, (blk_cell BK562.out 1).trans rfl, (blk_cell BK562.out 2).trans rfl, (blk_cell BK562.out 3).trans rfl, (blk_cell BK562.out 4).trans rfl, ((HB.out.cell (World.block_lt_of_cell? w _ hw563_0)).trans hw563_0), ((HB.out.cell (World.block_lt_of_cell? w _ hw563_1)).trans hw563_1), ((HB.out.cell (World.block_lt_of_cell? w _ hw563_2)).trans hw563_2), ((HB.out.cell (World.block_lt_of_cell? w _ hw563_3)).trans hw563_3), ((HB.out.cell (World.block_lt_of_cell? w _ hw563_4)).trans hw563_4)⟩ (fun hHeld => ?_)
              clear hK K
              refine norm_ (a' := ?_) ?_ ?_
              rotate_left
              · show Act.put _ (some 22) _ = _
                simp only [Act.put, List.setIfInBounds_toArray, List.set_cons_zero, List.set_cons_succ, i64_w, i32_w]
                rfl
              refine pure_ (i := 6) (N := some 7) (v := ?_) (a' := ?_) #[true, true, true, true, true, true, true] rfl rfl (by kernel_rfl) (fun _ _ _ h => h) (Or.inl ⟨by rfl, ?_⟩) ?_ ?_
              rotate_left
              · intro w'
                go_simp
                with_reducible rfl
              rotate_left
              · simp only [Act.put, List.setIfInBounds_toArray, List.set_cons_zero, List.set_cons_succ, i64_w, i32_w]
                rfl
              refine done_ (by kernel_rfl) ?_
              try go_wp2
              go_roundg k1
              case measure => have := HK1.out; omega
              case rel => exact ⟨(wrap64 (x6_1 + 1)), (by first | rfl | (simp; done) | (simp [*]; done)), (by first | with_reducible exact H' | exact H' | (subst_vars; exact H')), ⟨by have := HK1.out; omega⟩, ⟨by (with_reducible repeat (first | refine blk_drewN ?_ _ | refine blk_drew ?_ | refine blk_alloc ?_ _)); exact BK562.out⟩, ⟨by repeat (first | (with_reducible first | exact HB.out | apply below_alloc | apply pw_below_drewN | apply below_drew1 | refine below_set ?_ GE562.out) | exact HB.out)⟩⟩
            · rw [if_neg c9] at H
              have c9b0 : (t564 == 0) = false := beq_eq_false_iff_ne.mpr c9
              have c9b1 : (t564 != 0) = true := bne_iff_ne.mpr c9
              simp only [Option.some.injEq, Prod.mk.injEq] at H
              obtain ⟨rfl, rfl⟩ := H
              try go_wp2
              have n0_ := Aside0.mk (blk_drew BK562.out)
              have n1_ := Aside0.mk (below_drew1 HB.out)
              clear BK562
              clear HB
              have BK562 := n0_
              have HB := n1_
              clear n0_ n1_
              have p563 : 0 ≤ (x6_1 : Int) := of_decide_eq_true (by first | (with_reducible assumption) | assumption)
              have q563 : x6_1 < (l1.length : Int) := of_decide_eq_true (by first | (with_reducible assumption) | assumption)
              obtain ⟨ad563, e563, hx563_0, hx563_1, hx563_2, hx563_3, hx563_4⟩ := at_T48 HR1.out x6_1 p563 q563
              have hw563_4 := hx563_4
              have hw563_3 := hx563_3
              have hw563_2 := hx563_2
              have hw563_1 := hx563_1
              have hw563_0 := hx563_0
              cases e563
              (try replace hx563_0 := (HB.out.cell (World.block_lt_of_cell? w _ hx563_0)).trans hx563_0)
              (try replace hx563_1 := (HB.out.cell (World.block_lt_of_cell? w _ hx563_1)).trans hx563_1)
              (try replace hx563_2 := (HB.out.cell (World.block_lt_of_cell? w _ hx563_2)).trans hx563_2)
              (try replace hx563_3 := (HB.out.cell (World.block_lt_of_cell? w _ hx563_3)).trans hx563_3)
              (try replace hx563_4 := (HB.out.cell (World.block_lt_of_cell? w _ hx563_4)).trans hx563_4)
              replace p563 := eq_true p563
              replace q563 := eq_true q563
              refine start_ (n := 7) (S := fun w' => w'.cell? ⟨gb562, 0, none⟩ = some (.int .i64 a0_0) ∧ w'.cell? ⟨gb562, 1, none⟩ = some (.int .i64 a0_1) ∧ w'.cell? ⟨gb562, 2, none⟩ = some (.string a0_2) ∧ w'.cell? ⟨gb562, 3, none⟩ = some (.slice A0_3 l0_3.length c0_3) ∧ w'.cell? ⟨gb562, 4, none⟩ = some (.slice A0_4 l0_4.length c0_4) ∧ w'.cell? (ad563.add ((x6_1).toNat * 5)) = some (.string ((rd_T48 l1 x6_1).f0)) ∧ w'.cell? ⟨(ad563.add ((x6_1).toNat * 5)).block, (ad563.add ((x6_1).toNat * 5)).off + 1, none⟩ = some (.int .i64 ((rd_T48 l1 x6_1).f1)) ∧ w'.cell? ⟨(ad563.add ((x6_1).toNat * 5)).block, (ad563.add ((x6_1).toNat * 5)).off + 2, none⟩ = some (.bool ((rd_T48 l1 x6_1).f2)) ∧ w'.cell? ⟨(ad563.add ((x6_1).toNat * 5)).block, (ad563.add ((x6_1).toNat * 5)).off + 3, none⟩ = some (.int .i64 ((rd_T48 l1 x6_1).f3)) ∧ w'.cell? ⟨(ad563.add ((x6_1).toNat * 5)).block, (ad563.add ((x6_1).toNat * 5)).off + 4, none⟩ = some (.bool ((rd_T48 l1 x6_1).f4))) (ds := []) #[false, false, false, false, false, false, false] (by kernel_rfl) rfl rfl ⟨(blk_cell BK562.out 0).trans rfl, (blk_cell BK562.out 1).trans rfl, (blk_cell BK562.out 2).trans rfl, (blk_cell BK562.out 3).trans rfl, (blk_cell BK562.out 4).trans rfl, ((HB.out.cell (World.block_lt_of_cell? w _ hw563_0)).trans hw563_0), ((HB.out.cell (World.block_lt_of_cell? w _ hw563_1)).trans hw563_1), ((HB.out.cell (World.block_lt_of_cell? w _ hw563_2)).trans hw563_2), ((HB.out.cell (World.block_lt_of_cell? w _ hw563_3)).trans hw563_3), ((HB.out.cell (World.block_lt_of_cell? w _ hw563_4)).trans hw563_4)⟩ (fun hHeld => ?_)
              generalize wr.drew = w12 at BK562 HB hx563_0 hx563_1 hx563_2 hx563_3 hx563_4 hHeld ⊢
              refine pure_ (i := 1) (N := some 18) (v := ?_) (a' := ?_) #[false, true, false, false, false, false, false] rfl rfl (by kernel_rfl) (fun _ _ _ h => h) (Or.inl ⟨by rfl, ?_⟩) ?_ ?_
              rotate_left
              · intro w'
                go_simp
                with_reducible rfl
              rotate_left
              · simp only [Act.put, List.setIfInBounds_toArray, List.set_cons_zero, List.set_cons_succ, i64_w, i32_w]
                rfl
              refine pure_ (i := 2) (N := some 19) (v := ?_) (a' := ?_) #[false, true, true, false, false, false, false] rfl rfl (by kernel_rfl) (fun _ _ _ h => h) (Or.inl ⟨by rfl, ?_⟩) ?_ ?_
              rotate_left
              · intro w'
                go_simp
                with_reducible rfl
              rotate_left
              · simp only [Act.put, List.setIfInBounds_toArray, List.set_cons_zero, List.set_cons_succ, i64_w, i32_w]
                rfl
              refine pure_ (i := 3) (N := some 20) (v := ?_) (a' := ?_) #[false, true, true, true, false, false, false] rfl rfl (by kernel_rfl) (fun _ _ _ h => h) (Or.inl ⟨by rfl, ?_⟩) ?_ ?_
              rotate_left
              · intro w'
                go_simp
                with_reducible rfl
              rotate_left
              · simp only [Act.put, List.setIfInBounds_toArray, List.set_cons_zero, List.set_cons_succ, i64_w, i32_w]
                rfl
              refine take_ (i := 0) (N := some 17) (v := ?_) (a' := ?_) #[true, true, true, true, false, false, false] rfl rfl (by kernel_rfl) (fun _ _ _ h => h) (Or.inl ⟨by rfl, ?_⟩) hHeld ?_ ?_
              rotate_left
              · rintro w' ⟨s0, s1, s2, s3, s4, s5, s6, s7, s8, s9⟩
                go_simp
                with_reducible rfl
              rotate_left
              · simp only [Act.put, List.setIfInBounds_toArray, List.set_cons_zero, List.set_cons_succ, i64_w, i32_w]
                rfl
              refine take_ (i := 4) (N := some 21) (v := ?_) (a' := ?_) #[true, true, true, true, true, false, false] rfl rfl (by kernel_rfl) (fun _ _ _ h => h) (Or.inl ⟨by rfl, ?_⟩) hHeld ?_ ?_
              rotate_left
              · rintro w' ⟨s0, s1, s2, s3, s4, s5, s6, s7, s8, s9⟩
                go_simp
                with_reducible rfl
              rotate_left
              · simp only [Act.put, List.setIfInBounds_toArray, List.set_cons_zero, List.set_cons_succ, i64_w, i32_w]
                rfl
              refine one_ (i := 5) (N := some 22) #[true, true, true, true, true, true, false] rfl rfl (by kernel_rfl) (by decide) (fun K hK => ?_)
              refine goes_ Try.func80 (by kernel_rfl) rfl #[.agg #[.int .i64 a0_0, .int .i64 a0_1, .string a0_2, .slice A0_3 l0_3.length c0_3, .slice A0_4 l0_4.length c0_4], .agg #[.string ((rd_T48 l1 x6_1).f0), .int .i64 ((rd_T48 l1 x6_1).f1), .bool ((rd_T48 l1 x6_1).f2), .int .i64 ((rd_T48 l1 x6_1).f3), .bool ((rd_T48 l1 x6_1).f4)]] (by rfl) rfl rfl (by (try simp only [List.map_toArray, List.map_cons, List.map_nil]); first | done | rfl | (simp only [List.length_drop, List.length_take]; rfl)) ?_
              with_reducible refine (sealringref29_One.calls k1 a0_0 a0_1 a0_2 _ _ l0_3 _ _ l0_4 ((rd_T48 l1 x6_1).f0) ((rd_T48 l1 x6_1).f1) ((rd_T48 l1 x6_1).f2) ((rd_T48 l1 x6_1).f3) ((rd_T48 l1 x6_1).f4) t564 _ ?side1 ?side2 ?side3 ?side4 A8.out).mono ?_
              (case side1 => repeat (first | exact (Kd.C_below HR0_3.out HB.out) | (with_reducible refine Kd.C_alloc ?_ _) | (with_reducible refine Kd.C_drewN ?_ _) | (with_reducible refine Kd.C_drew ?_)))
              (case side2 => exact HC0_3.out)
              (case side3 => repeat (first | exact (Kd.C_below HR0_4.out HB.out) | (with_reducible refine Kd.C_alloc ?_ _) | (with_reducible refine Kd.C_drewN ?_ _) | (with_reducible refine Kd.C_drew ?_)))
              (case side4 => exact HC0_4.out)
              rintro e w13 ⟨rfl, hb⟩
              refine ⟨_, rfl, ?_⟩
              have n0_ := Aside0.mk (blk_below (g := gb562) (o := .cells #[.int .i64 a0_0, .int .i64 a0_1, .string a0_2, .slice A0_3 l0_3.length c0_3, .slice A0_4 l0_4.length c0_4] 25 (0, 0)) (by (with_reducible repeat (first | refine blk_drewN ?_ _ | refine blk_drew ?_ | refine blk_alloc ?_ _)); exact BK562.out) hb)
              have n1_ := Aside0.mk (below_step (by repeat (first | (with_reducible first | exact HB.out | apply below_alloc | apply pw_below_drewN | apply below_drew1 | refine below_set ?_ GE562.out) | exact HB.out)) hb)
              clear BK562
              clear HB
              have BK562 := n0_
              have HB := n1_
              clear n0_ n1_
              (try clear hb)
              (try clear hb2)
              (try clear hk)
              (try clear hi)
              refine hK.out _ _ ⟨(blk_cell BK562.out 0).trans rfl, (blk_cell BK562.out 1).trans rfl, (blk_cell BK562.out 2).trans rfl, (blk_cell BK562.out 3).trans rfl, (blk_cell BK562.out 4).trans rfl, ((HB.out.cell (World.block_lt_of_cell? w _ hw563_0)).trans hw563_0), ((HB.out.cell (World.block_lt_of_cell? w _ hw563_1)).trans hw563_1), ((HB.out.cell (World.block_lt_of_cell? w _ hw563_2)).trans hw563_2), ((HB.out.cell (World.block_lt_of_cell? w _ hw563_3)).trans hw563_3), ((HB.out.cell (World.block_lt_of_cell? w _ hw563_4)).trans hw563_4)⟩ (fun hHeld => ?_)
              clear hK K
              refine norm_ (a' := ?_) ?_ ?_
              rotate_left
              · show Act.put _ (some 22) _ = _
                simp only [Act.put, List.setIfInBounds_toArray, List.set_cons_zero, List.set_cons_succ, i64_w, i32_w]
                rfl
              refine pure_ (i := 6) (N := some 7) (v := ?_) (a' := ?_) #[true, true, true, true, true, true, true] rfl rfl (by kernel_rfl) (fun _ _ _ h => h) (Or.inl ⟨by rfl, ?_⟩) ?_ ?_
              rotate_left
              · intro w'
                go_simp
                with_reducible rfl
              rotate_left
              · simp only [Act.put, List.setIfInBounds_toArray, List.set_cons_zero, List.set_cons_succ, i64_w, i32_w]
                rfl
              refine done_ (by kernel_rfl) ?_
              have p565 : 0 ≤ (x6_1 : Int) := of_decide_eq_true (by first | (with_reducible assumption) | assumption)
              have q565 : x6_1 < (l1.length : Int) := of_decide_eq_true (by first | (with_reducible assumption) | assumption)
              obtain ⟨ad565, e565, hx565_0, hx565_1, hx565_2, hx565_3, hx565_4⟩ := at_T48 HR1.out x6_1 p565 q565
              obtain rfl : ad563 = ad565 := (by injection e565)
              (try replace hx565_0 := (HB.out.cell (World.block_lt_of_cell? w _ hx565_0)).trans hx565_0)
              (try replace hx565_1 := (HB.out.cell (World.block_lt_of_cell? w _ hx565_1)).trans hx565_1)
              (try replace hx565_2 := (HB.out.cell (World.block_lt_of_cell? w _ hx565_2)).trans hx565_2)
              (try replace hx565_3 := (HB.out.cell (World.block_lt_of_cell? w _ hx565_3)).trans hx565_3)
              (try replace hx565_4 := (HB.out.cell (World.block_lt_of_cell? w _ hx565_4)).trans hx565_4)
              replace p565 := eq_true p565
              replace q565 := eq_true q565
              try go_wp2
              go_ret2
              exact ⟨by first | rfl | (simp [errW_none, errW_some] <;> rfl) | (simp [*, errW_none, errW_some] <;> rfl), by repeat (first | (with_reducible first | exact HB.out | apply below_alloc | apply pw_below_drewN | apply below_drew1 | refine below_set ?_ GE562.out) | exact HB.out)⟩
          · rw [if_neg c7] at H
            exact absurd H (by simp)
        · rw [if_neg c6] at H
          have c6b0 : decide (x6_1 < (l1.length : Int)) = false := decide_eq_false c6
          clear c6
          simp only [Option.some.injEq, Prod.mk.injEq] at H
          obtain ⟨rfl, rfl⟩ := H
          go_wp2
          go_ret2
          exact ⟨by first | rfl | (simp [errW_none, errW_some] <;> rfl) | (simp [*, errW_none, errW_some] <;> rfl), by repeat (first | (with_reducible first | exact HB.out | apply below_alloc | apply pw_below_drewN | apply below_drew1 | refine below_set ?_ GE562.out) | exact HB.out)⟩
  · rw [if_neg c3] at H
    have c3b0 : (a0_0 == 6) = false := beq_eq_false_iff_ne.mpr c3
    have c3b1 : (a0_0 != 6) = true := bne_iff_ne.mpr c3
    simp only [Option.some.injEq, Prod.mk.injEq] at H
    obtain ⟨rfl, rfl⟩ := H
    go_enter Try.func31, Try.ntmps31
    go_wp2_with (first | ((with_reducible refine gate_dst (N := 2) rfl ?_); refine box_event ?hg (N := 2) ?hd (cs := #[.int .i64 a0_0, .int .i64 a0_1, .string a0_2, .slice A0_3 l0_3.length c0_3, .slice A0_4 l0_4.length c0_4]) (t := 25) ?hr ?_; (case hd => rfl); (case hg => rfl); (case hr => first | (go_simp; done) | (go_simp; rfl)); intro gb562 hg w14 hbox hb; have n0_ := Aside0.mk (below_step (by repeat (first | (with_reducible first | exact HB.out | apply below_alloc | apply pw_below_drewN | apply below_drew1) | exact HB.out)) hb); have n1_ := Aside0.mk (hbox); have n2_ := Aside0.mk ((by rw [hg]; exact (below_size (by repeat (first | (with_reducible first | exact HB.out | apply below_alloc | apply pw_below_drewN | apply below_drew1) | exact HB.out))) : w.heap.size ≤ gb562)); have n3_ := Aside0.mk ((by rw [hg]; exact (below_size (by repeat (first | (with_reducible first | exact HB.out | apply below_alloc | apply pw_below_drewN | apply below_drew1) | exact HB.out))) : w.heap.size ≤ gb562)); clear HB; have HB := n0_; have BK562 := n1_; have GW562 := n2_; have GE562 := n3_; clear n0_ n1_ n2_ n3_; clear hb hbox hg; have hcz15_0 : w14.cell? ⟨gb562, 0, none⟩ = some (.int .i64 a0_0) := (blk_cell BK562.out 0).trans rfl; have hcz15_1 : w14.cell? ⟨gb562, 1, none⟩ = some (.int .i64 a0_1) := (blk_cell BK562.out 1).trans rfl; have hcz15_2 : w14.cell? ⟨gb562, 2, none⟩ = some (.string a0_2) := (blk_cell BK562.out 2).trans rfl; have hcz15_3 : w14.cell? ⟨gb562, 3, none⟩ = some (.slice A0_3 l0_3.length c0_3) := (blk_cell BK562.out 3).trans rfl; have hcz15_4 : w14.cell? ⟨gb562, 4, none⟩ = some (.slice A0_4 l0_4.length c0_4) := (blk_cell BK562.out 4).trans rfl; have hfz15_0 := blk_frozen BK562.out 0; have hfz15_1 := blk_frozen BK562.out 1; have hfz15_2 := blk_frozen BK562.out 2; have hfz15_3 := blk_frozen BK562.out 3; have hfz15_4 := blk_frozen BK562.out 4))
    go_ret2
    exact ⟨by first | rfl | (simp [errW_none, errW_some] <;> rfl) | (simp [*, errW_none, errW_some] <;> rfl), by repeat (first | (with_reducible first | exact HB.out | apply below_alloc | apply pw_below_drewN | apply below_drew1 | refine below_set ?_ GE562.out) | exact HB.out)⟩
end Go.Proofs.Ytbnmcnghmnhigaa.X
end
section
namespace Go.Proofs.Ytbnmcnghmnhigaa.X
open Go.RowKit Go.Proofs.YtbnmcnghmnhigaaW.PrintWords Go.Proofs.YtbnmcnghmnhigaaW.PrintLast Go.Proofs.YtbnmcnghmnhigaaW.PrintMore
attribute [local go_sem] max2_int min2_int max_two min_two max_three min_three max_four min_four
set_option linter.unusedVariables false
set_option linter.unusedSimpArgs false
def field_Text.f (k : Nat) (a0_0 : Int) (a0_1 : Int) (a0_2 : ByteArray) (l0_3 : List ByteArray) (l0_4 : List (S25)) (a1 : ByteArray) : Option (ByteArray × Bool) := (tree_Get.f k a0_0 a0_1 a0_2 l0_3 l0_4 a1).bind fun bt567 => (if bt567.2.2.2.2.2 = true then (if bt567.1 = 4 then (some (bt567.2.2.1, true)) else (some ((⟨#[]⟩ : ByteArray), false))) else (some ((⟨#[]⟩ : ByteArray), false)))
theorem field_Text.mono : ∀ a0 a1 a2 a3 a4 a5 k, LeO (field_Text.f k a0 a1 a2 a3 a4 a5) (field_Text.f (k + 1) a0 a1 a2 a3 a4 a5) := by
  intro a0 a1 a2 a3 a4 a5 k
  unfold field_Text.f
  repeat' first
      | (with_reducible exact tree_Get.mono _ _ _ _ _ _ _)
      | (with_reducible exact LeO.refl _)
      | (with_reducible exact LeO.none _)
      | (with_reducible refine LeO.ite ?_ ?_)
      | (with_reducible refine LeO.bind ?_ (fun _ => ?_))
      | exact tree_Get.mono _ _ _ _ _ _ _
      | exact LeO.none _
      | refine LeO.ite ?_ ?_
      | refine LeO.bind ?_ (fun _ => ?_)
set_option maxHeartbeats 8000000 in
set_option maxRecDepth 100000 in
theorem field_Text.calls (k : Nat) (a0_0 : Int) (a0_1 : Int) (a0_2 : ByteArray) (A0_3 : Option Addr) (c0_3 : Nat) (l0_3 : List ByteArray) (A0_4 : Option Addr) (c0_4 : Nat) (l0_4 : List (S25)) (a1 : ByteArray) (r1 : ByteArray) (r2 : Bool) (w : World) (hr0_3 : Kd.C Kd.string w A0_3 l0_3.length l0_3) (hc0_3 : l0_3.length ≤ c0_3) (hr0_4 : Kd.C k25 w A0_4 l0_4.length l0_4) (hc0_4 : l0_4.length ≤ c0_4) (h : field_Text.f k a0_0 a0_1 a0_2 l0_3 l0_4 a1 = some (r1, r2)) :
    Calls Try.prog 32 #[.agg #[.int .i64 a0_0, .int .i64 a0_1, .string a0_2, .slice A0_3 l0_3.length c0_3, .slice A0_4 l0_4.length c0_4], .string a1] w fun e w' => e = .returned (.tuple #[.string r1, .bool r2]) ∧ Below w.heap.size w w' := by
  have hu25 := Try.underlying25
  have HR0_3 := Aside0.mk hr0_3
  have HC0_3 := Aside0.mk hc0_3
  clear hr0_3 hc0_3
  have HR0_4 := Aside0.mk hr0_4
  have HC0_4 := Aside0.mk hc0_4
  clear hr0_4 hc0_4
  have HB := Aside0.mk (Below.refl w.heap.size w)
  have H : ((tree_Get.f k a0_0 a0_1 a0_2 l0_3 l0_4 a1).bind fun bt567 => (if bt567.2.2.2.2.2 = true then (if bt567.1 = 4 then (some (bt567.2.2.1, true)) else (some ((⟨#[]⟩ : ByteArray), false))) else (some ((⟨#[]⟩ : ByteArray), false)))) = some (r1, r2) := h
  clear h
  replace H := Option.bind_eq_some_iff.mp H
  obtain ⟨⟨t567, t568, t569, t570, t573, t576⟩, A30, H⟩ := H
  replace H : (if t576 = true then (if t567 = 4 then (some (t569, true)) else (some ((⟨#[]⟩ : ByteArray), false))) else (some ((⟨#[]⟩ : ByteArray), false))) = some (r1, r2) := H
  have A3 := Aside0.mk A30
  clear A30
  by_cases c4 : t576 = true
  · subst c4
    have H1 : (if t567 = 4 then (some (t569, true)) else (some ((⟨#[]⟩ : ByteArray), false))) = some (r1, r2) := by rw [if_pos rfl] at H; exact H
    clear H
    have H := H1
    clear H1
    by_cases c5 : t567 = 4
    · rw [if_pos c5] at H
      have c5b0 : (t567 == 4) = true := beq_iff_eq.mpr c5
      have c5b1 : (t567 != 4) = false := bne_eq_false_iff_eq.mpr c5
      clear c5
      simp only [Option.some.injEq, Prod.mk.injEq] at H
      obtain ⟨rfl, rfl⟩ := H
      go_enter Try.func32, Try.ntmps32
      go_wp2_with (first | ((with_reducible refine gate_dst (N := 2) rfl ?_); refine box_event ?hg (N := 2) ?hd (cs := #[.int .i64 a0_0, .int .i64 a0_1, .string a0_2, .slice A0_3 l0_3.length c0_3, .slice A0_4 l0_4.length c0_4]) (t := 25) ?hr ?_; (case hd => rfl); (case hg => rfl); (case hr => first | (go_simp; done) | (go_simp; rfl)); intro gb566 hg w6 hbox hb; have n0_ := Aside0.mk (below_step (by repeat (first | (with_reducible first | exact HB.out | apply below_alloc | apply pw_below_drewN | apply below_drew1) | exact HB.out)) hb); have n1_ := Aside0.mk (hbox); have n2_ := Aside0.mk ((by rw [hg]; exact (below_size (by repeat (first | (with_reducible first | exact HB.out | apply below_alloc | apply pw_below_drewN | apply below_drew1) | exact HB.out))) : w.heap.size ≤ gb566)); have n3_ := Aside0.mk ((by rw [hg]; exact (below_size (by repeat (first | (with_reducible first | exact HB.out | apply below_alloc | apply pw_below_drewN | apply below_drew1) | exact HB.out))) : w.heap.size ≤ gb566)); clear HB; have HB := n0_; have BK566 := n1_; have GW566 := n2_; have GE566 := n3_; clear n0_ n1_ n2_ n3_; clear hb hbox hg; have hcz7_0 : w6.cell? ⟨gb566, 0, none⟩ = some (.int .i64 a0_0) := (blk_cell BK566.out 0).trans rfl; have hcz7_1 : w6.cell? ⟨gb566, 1, none⟩ = some (.int .i64 a0_1) := (blk_cell BK566.out 1).trans rfl; have hcz7_2 : w6.cell? ⟨gb566, 2, none⟩ = some (.string a0_2) := (blk_cell BK566.out 2).trans rfl; have hcz7_3 : w6.cell? ⟨gb566, 3, none⟩ = some (.slice A0_3 l0_3.length c0_3) := (blk_cell BK566.out 3).trans rfl; have hcz7_4 : w6.cell? ⟨gb566, 4, none⟩ = some (.slice A0_4 l0_4.length c0_4) := (blk_cell BK566.out 4).trans rfl; have hfz7_0 := blk_frozen BK566.out 0; have hfz7_1 := blk_frozen BK566.out 1; have hfz7_2 := blk_frozen BK566.out 2; have hfz7_3 := blk_frozen BK566.out 3; have hfz7_4 := blk_frozen BK566.out 4) | ((with_reducible refine gate_callee (f := 61) rfl ?_); refine goesL_ (some 11) rfl rfl Try.func61 (by kernel_rfl) rfl #[.agg #[.int .i64 a0_0, .int .i64 a0_1, .string a0_2, .slice A0_3 l0_3.length c0_3, .slice A0_4 l0_4.length c0_4], .string a1] rfl (by (try simp only [List.map_toArray, List.map_cons, List.map_nil]); first | done | rfl | (simp only [List.length_drop, List.length_take]; rfl)) ?_; (with_reducible refine (tree_Get.calls k a0_0 a0_1 a0_2 _ _ l0_3 (fun k_ => k_ < w.heap.size) _ _ l0_4 a1 t567 t568 t569 t570 t573 true _ ?side1 ?side2 ?side3 A3.out).mono ?_); (case side1 => repeat (first | exact (Kd.C_below HR0_3.out HB.out) | (with_reducible refine Kd.C_alloc ?_ _) | (with_reducible refine Kd.C_drewN ?_ _) | (with_reducible refine Kd.C_drew ?_))); (case side2 => exact HC0_3.out); (case side3 => exact Kd.V_mk HC0_4.out (Kd.F_below (Kd.C_F k25_heap HR0_4.out) (by repeat (first | (with_reducible first | exact HB.out | apply below_alloc | apply pw_below_drewN | apply below_drew1 | refine below_set ?_ GE566.out) | exact HB.out)))); rintro e w8 ⟨v571, v574, rfl, ho0, ho1, hb⟩; refine ⟨_, rfl, ?_⟩; have n0_ := Aside0.mk (Kd.V_lower (Kd.V_mono (ok' := fun k_ => k_ ≠ gb566) ho0 (fun k_ hk_ => Or.elim hk_ (fun hs_ => fun e_ => Nat.not_le.2 hs_ (by rw [e_]; exact GW566.out)) (fun hn_ => (Kd.freshB (g := gb566) (o := .cells #[.int .i64 a0_0, .int .i64 a0_1, .string a0_2, .slice A0_3 l0_3.length c0_3, .slice A0_4 l0_4.length c0_4] 25 (0, 0)) (by (with_reducible repeat (first | refine blk_drewN ?_ _ | refine blk_drew ?_ | refine blk_alloc ?_ _)); exact BK566.out) k_ hn_)))) (below_size (by repeat (first | (with_reducible first | exact HB.out | apply below_alloc | apply pw_below_drewN | apply below_drew1 | refine below_set ?_ GE566.out) | exact HB.out)))); have n1_ := Aside0.mk (Kd.V_lower (Kd.V_mono (ok' := fun k_ => k_ ≠ gb566) ho1 (fun k_ hk_ => Or.elim hk_ (fun hs_ => fun e_ => Nat.not_le.2 hs_ (by rw [e_]; exact GW566.out)) (fun hn_ => (Kd.freshB (g := gb566) (o := .cells #[.int .i64 a0_0, .int .i64 a0_1, .string a0_2, .slice A0_3 l0_3.length c0_3, .slice A0_4 l0_4.length c0_4] 25 (0, 0)) (by (with_reducible repeat (first | refine blk_drewN ?_ _ | refine blk_drew ?_ | refine blk_alloc ?_ _)); exact BK566.out) k_ hn_)))) (below_size (by repeat (first | (with_reducible first | exact HB.out | apply below_alloc | apply pw_below_drewN | apply below_drew1 | refine below_set ?_ GE566.out) | exact HB.out)))); have n2_ := Aside0.mk (blk_below (g := gb566) (o := .cells #[.int .i64 a0_0, .int .i64 a0_1, .string a0_2, .slice A0_3 l0_3.length c0_3, .slice A0_4 l0_4.length c0_4] 25 (0, 0)) (by (with_reducible repeat (first | refine blk_drewN ?_ _ | refine blk_drew ?_ | refine blk_alloc ?_ _)); exact BK566.out) hb); have n3_ := Aside0.mk (below_step (by repeat (first | (with_reducible first | exact HB.out | apply below_alloc | apply pw_below_drewN | apply below_drew1 | refine below_set ?_ GE566.out) | exact HB.out)) hb); clear BK566; clear HB; have HO572 := n0_; have HO575 := n1_; have BK566 := n2_; have HB := n3_; clear n0_ n1_ n2_ n3_; (try clear hb); (try clear hb2); (try clear hk); (try clear hi); (try clear ho0); (try clear ho1)) | ((with_reducible refine gate_dst (N := 6) rfl ?_); refine box_event ?hg (N := 6) ?hd (cs := #[.int .i64 0, .int .i64 0, .string (⟨#[]⟩ : ByteArray), .slice none 0 0, .slice none 0 0]) (t := 25) ?hr ?_; (case hd => rfl); (case hg => rfl); (case hr => first | (go_simp; done) | (go_simp; rfl)); intro gb577 hg w9 hbox hb; have n0_ := Aside0.mk (Kd.V_below (Kd.V_elderB (by (with_reducible repeat (first | apply Kd.V_alloc | apply Kd.V_drewN | apply Kd.V_drew)); exact HO572.out) gb577 (Nat.le_of_eq hg.symm)) hb); have n1_ := Aside0.mk (Kd.V_below (Kd.V_elderB (by (with_reducible repeat (first | apply Kd.V_alloc | apply Kd.V_drewN | apply Kd.V_drew)); exact HO575.out) gb577 (Nat.le_of_eq hg.symm)) hb); have n2_ := Aside0.mk (blk_below (g := gb566) (o := .cells #[.int .i64 a0_0, .int .i64 a0_1, .string a0_2, .slice A0_3 l0_3.length c0_3, .slice A0_4 l0_4.length c0_4] 25 (0, 0)) (by (with_reducible repeat (first | refine blk_drewN ?_ _ | refine blk_drew ?_ | refine blk_alloc ?_ _)); exact BK566.out) hb); have n3_ := Aside0.mk (below_step (by repeat (first | (with_reducible first | exact HB.out | apply below_alloc | apply pw_below_drewN | apply below_drew1 | refine below_set ?_ GE566.out) | exact HB.out)) hb); have n4_ := Aside0.mk (hbox); have n5_ := Aside0.mk ((by rw [hg]; exact (below_size (by repeat (first | (with_reducible first | exact HB.out | apply below_alloc | apply pw_below_drewN | apply below_drew1 | refine below_set ?_ GE566.out) | exact HB.out))) : w.heap.size ≤ gb577)); have n6_ := Aside0.mk ((by rw [hg]; exact (below_size (by repeat (first | (with_reducible first | exact HB.out | apply below_alloc | apply pw_below_drewN | apply below_drew1 | refine below_set ?_ GE566.out) | exact HB.out))) : w.heap.size ≤ gb577)); have n7_ := Aside0.mk ((by rw [hg]; exact Nat.ne_of_lt (blk_lt (g := gb566) (o := .cells #[.int .i64 a0_0, .int .i64 a0_1, .string a0_2, .slice A0_3 l0_3.length c0_3, .slice A0_4 l0_4.length c0_4] 25 (0, 0)) (by (with_reducible repeat (first | refine blk_drewN ?_ _ | refine blk_drew ?_ | refine blk_alloc ?_ _)); exact BK566.out)) : gb566 ≠ gb577)); have n8_ := Aside0.mk ((by rw [hg]; exact Nat.ne_of_gt (blk_lt (g := gb566) (o := .cells #[.int .i64 a0_0, .int .i64 a0_1, .string a0_2, .slice A0_3 l0_3.length c0_3, .slice A0_4 l0_4.length c0_4] 25 (0, 0)) (by (with_reducible repeat (first | refine blk_drewN ?_ _ | refine blk_drew ?_ | refine blk_alloc ?_ _)); exact BK566.out)) : gb577 ≠ gb566)); clear HO572; clear HO575; clear BK566; clear HB; have HO572 := n0_; have HO575 := n1_; have BK566 := n2_; have HB := n3_; have BK577 := n4_; have GW577 := n5_; have GE577 := n6_; have NB566_577 := n7_; have NB577_566 := n8_; clear n0_ n1_ n2_ n3_ n4_ n5_ n6_ n7_ n8_; clear hb hbox hg; have hnb10 := NB577_566.out; have hnc10 := NB566_577.out; have hcz11_0 : w9.cell? ⟨gb577, 0, none⟩ = some (.int .i64 0) := (blk_cell BK577.out 0).trans rfl; have hcz11_1 : w9.cell? ⟨gb577, 1, none⟩ = some (.int .i64 0) := (blk_cell BK577.out 1).trans rfl; have hcz11_2 : w9.cell? ⟨gb577, 2, none⟩ = some (.string (⟨#[]⟩ : ByteArray)) := (blk_cell BK577.out 2).trans rfl; have hcz11_3 : w9.cell? ⟨gb577, 3, none⟩ = some (.slice none 0 0) := (blk_cell BK577.out 3).trans rfl; have hcz11_4 : w9.cell? ⟨gb577, 4, none⟩ = some (.slice none 0 0) := (blk_cell BK577.out 4).trans rfl; have hfz11_0 := blk_frozen BK577.out 0; have hfz11_1 := blk_frozen BK577.out 1; have hfz11_2 := blk_frozen BK577.out 2; have hfz11_3 := blk_frozen BK577.out 3; have hfz11_4 := blk_frozen BK577.out 4; obtain ⟨Ao12, co12, eo12⟩ := Kd.V_slice HO572.out; subst eo12; obtain ⟨Ao13, co13, eo13⟩ := Kd.V_slice HO575.out; subst eo13))
      go_ret2
      exact ⟨by first | rfl | (simp [errW_none, errW_some] <;> rfl) | (simp [*, errW_none, errW_some] <;> rfl), by repeat (first | (with_reducible first | exact HB.out | apply below_alloc | apply pw_below_drewN | apply below_drew1 | refine below_set ?_ GE566.out | refine below_set ?_ GE577.out) | exact HB.out)⟩
    · rw [if_neg c5] at H
      have c5b0 : (t567 == 4) = false := beq_eq_false_iff_ne.mpr c5
      have c5b1 : (t567 != 4) = true := bne_iff_ne.mpr c5
      simp only [Option.some.injEq, Prod.mk.injEq] at H
      obtain ⟨rfl, rfl⟩ := H
      go_enter Try.func32, Try.ntmps32
      go_wp2_with (first | ((with_reducible refine gate_dst (N := 2) rfl ?_); refine box_event ?hg (N := 2) ?hd (cs := #[.int .i64 a0_0, .int .i64 a0_1, .string a0_2, .slice A0_3 l0_3.length c0_3, .slice A0_4 l0_4.length c0_4]) (t := 25) ?hr ?_; (case hd => rfl); (case hg => rfl); (case hr => first | (go_simp; done) | (go_simp; rfl)); intro gb566 hg w14 hbox hb; have n0_ := Aside0.mk (below_step (by repeat (first | (with_reducible first | exact HB.out | apply below_alloc | apply pw_below_drewN | apply below_drew1) | exact HB.out)) hb); have n1_ := Aside0.mk (hbox); have n2_ := Aside0.mk ((by rw [hg]; exact (below_size (by repeat (first | (with_reducible first | exact HB.out | apply below_alloc | apply pw_below_drewN | apply below_drew1) | exact HB.out))) : w.heap.size ≤ gb566)); have n3_ := Aside0.mk ((by rw [hg]; exact (below_size (by repeat (first | (with_reducible first | exact HB.out | apply below_alloc | apply pw_below_drewN | apply below_drew1) | exact HB.out))) : w.heap.size ≤ gb566)); clear HB; have HB := n0_; have BK566 := n1_; have GW566 := n2_; have GE566 := n3_; clear n0_ n1_ n2_ n3_; clear hb hbox hg; have hcz15_0 : w14.cell? ⟨gb566, 0, none⟩ = some (.int .i64 a0_0) := (blk_cell BK566.out 0).trans rfl; have hcz15_1 : w14.cell? ⟨gb566, 1, none⟩ = some (.int .i64 a0_1) := (blk_cell BK566.out 1).trans rfl; have hcz15_2 : w14.cell? ⟨gb566, 2, none⟩ = some (.string a0_2) := (blk_cell BK566.out 2).trans rfl; have hcz15_3 : w14.cell? ⟨gb566, 3, none⟩ = some (.slice A0_3 l0_3.length c0_3) := (blk_cell BK566.out 3).trans rfl; have hcz15_4 : w14.cell? ⟨gb566, 4, none⟩ = some (.slice A0_4 l0_4.length c0_4) := (blk_cell BK566.out 4).trans rfl; have hfz15_0 := blk_frozen BK566.out 0; have hfz15_1 := blk_frozen BK566.out 1; have hfz15_2 := blk_frozen BK566.out 2; have hfz15_3 := blk_frozen BK566.out 3; have hfz15_4 := blk_frozen BK566.out 4) | ((with_reducible refine gate_callee (f := 61) rfl ?_); refine goesL_ (some 11) rfl rfl Try.func61 (by kernel_rfl) rfl #[.agg #[.int .i64 a0_0, .int .i64 a0_1, .string a0_2, .slice A0_3 l0_3.length c0_3, .slice A0_4 l0_4.length c0_4], .string a1] rfl (by (try simp only [List.map_toArray, List.map_cons, List.map_nil]); first | done | rfl | (simp only [List.length_drop, List.length_take]; rfl)) ?_; (with_reducible refine (tree_Get.calls k a0_0 a0_1 a0_2 _ _ l0_3 (fun k_ => k_ < w.heap.size) _ _ l0_4 a1 t567 t568 t569 t570 t573 true _ ?side1 ?side2 ?side3 A3.out).mono ?_); (case side1 => repeat (first | exact (Kd.C_below HR0_3.out HB.out) | (with_reducible refine Kd.C_alloc ?_ _) | (with_reducible refine Kd.C_drewN ?_ _) | (with_reducible refine Kd.C_drew ?_))); (case side2 => exact HC0_3.out); (case side3 => exact Kd.V_mk HC0_4.out (Kd.F_below (Kd.C_F k25_heap HR0_4.out) (by repeat (first | (with_reducible first | exact HB.out | apply below_alloc | apply pw_below_drewN | apply below_drew1 | refine below_set ?_ GE566.out) | exact HB.out)))); rintro e w16 ⟨v571, v574, rfl, ho0, ho1, hb⟩; refine ⟨_, rfl, ?_⟩; have n0_ := Aside0.mk (Kd.V_lower (Kd.V_mono (ok' := fun k_ => k_ ≠ gb566) ho0 (fun k_ hk_ => Or.elim hk_ (fun hs_ => fun e_ => Nat.not_le.2 hs_ (by rw [e_]; exact GW566.out)) (fun hn_ => (Kd.freshB (g := gb566) (o := .cells #[.int .i64 a0_0, .int .i64 a0_1, .string a0_2, .slice A0_3 l0_3.length c0_3, .slice A0_4 l0_4.length c0_4] 25 (0, 0)) (by (with_reducible repeat (first | refine blk_drewN ?_ _ | refine blk_drew ?_ | refine blk_alloc ?_ _)); exact BK566.out) k_ hn_)))) (below_size (by repeat (first | (with_reducible first | exact HB.out | apply below_alloc | apply pw_below_drewN | apply below_drew1 | refine below_set ?_ GE566.out) | exact HB.out)))); have n1_ := Aside0.mk (Kd.V_lower (Kd.V_mono (ok' := fun k_ => k_ ≠ gb566) ho1 (fun k_ hk_ => Or.elim hk_ (fun hs_ => fun e_ => Nat.not_le.2 hs_ (by rw [e_]; exact GW566.out)) (fun hn_ => (Kd.freshB (g := gb566) (o := .cells #[.int .i64 a0_0, .int .i64 a0_1, .string a0_2, .slice A0_3 l0_3.length c0_3, .slice A0_4 l0_4.length c0_4] 25 (0, 0)) (by (with_reducible repeat (first | refine blk_drewN ?_ _ | refine blk_drew ?_ | refine blk_alloc ?_ _)); exact BK566.out) k_ hn_)))) (below_size (by repeat (first | (with_reducible first | exact HB.out | apply below_alloc | apply pw_below_drewN | apply below_drew1 | refine below_set ?_ GE566.out) | exact HB.out)))); have n2_ := Aside0.mk (blk_below (g := gb566) (o := .cells #[.int .i64 a0_0, .int .i64 a0_1, .string a0_2, .slice A0_3 l0_3.length c0_3, .slice A0_4 l0_4.length c0_4] 25 (0, 0)) (by (with_reducible repeat (first | refine blk_drewN ?_ _ | refine blk_drew ?_ | refine blk_alloc ?_ _)); exact BK566.out) hb); have n3_ := Aside0.mk (below_step (by repeat (first | (with_reducible first | exact HB.out | apply below_alloc | apply pw_below_drewN | apply below_drew1 | refine below_set ?_ GE566.out) | exact HB.out)) hb); clear BK566; clear HB; have HO572 := n0_; have HO575 := n1_; have BK566 := n2_; have HB := n3_; clear n0_ n1_ n2_ n3_; (try clear hb); (try clear hb2); (try clear hk); (try clear hi); (try clear ho0); (try clear ho1)) | ((with_reducible refine gate_dst (N := 6) rfl ?_); refine box_event ?hg (N := 6) ?hd (cs := #[.int .i64 0, .int .i64 0, .string (⟨#[]⟩ : ByteArray), .slice none 0 0, .slice none 0 0]) (t := 25) ?hr ?_; (case hd => rfl); (case hg => rfl); (case hr => first | (go_simp; done) | (go_simp; rfl)); intro gb577 hg w17 hbox hb; have n0_ := Aside0.mk (Kd.V_below (Kd.V_elderB (by (with_reducible repeat (first | apply Kd.V_alloc | apply Kd.V_drewN | apply Kd.V_drew)); exact HO572.out) gb577 (Nat.le_of_eq hg.symm)) hb); have n1_ := Aside0.mk (Kd.V_below (Kd.V_elderB (by (with_reducible repeat (first | apply Kd.V_alloc | apply Kd.V_drewN | apply Kd.V_drew)); exact HO575.out) gb577 (Nat.le_of_eq hg.symm)) hb); have n2_ := Aside0.mk (blk_below (g := gb566) (o := .cells #[.int .i64 a0_0, .int .i64 a0_1, .string a0_2, .slice A0_3 l0_3.length c0_3, .slice A0_4 l0_4.length c0_4] 25 (0, 0)) (by (with_reducible repeat (first | refine blk_drewN ?_ _ | refine blk_drew ?_ | refine blk_alloc ?_ _)); exact BK566.out) hb); have n3_ := Aside0.mk (below_step (by repeat (first | (with_reducible first | exact HB.out | apply below_alloc | apply pw_below_drewN | apply below_drew1 | refine below_set ?_ GE566.out) | exact HB.out)) hb); have n4_ := Aside0.mk (hbox); have n5_ := Aside0.mk ((by rw [hg]; exact (below_size (by repeat (first | (with_reducible first | exact HB.out | apply below_alloc | apply pw_below_drewN | apply below_drew1 | refine below_set ?_ GE566.out) | exact HB.out))) : w.heap.size ≤ gb577)); have n6_ := Aside0.mk ((by rw [hg]; exact (below_size (by repeat (first | (with_reducible first | exact HB.out | apply below_alloc | apply pw_below_drewN | apply below_drew1 | refine below_set ?_ GE566.out) | exact HB.out))) : w.heap.size ≤ gb577)); have n7_ := Aside0.mk ((by rw [hg]; exact Nat.ne_of_lt (blk_lt (g := gb566) (o := .cells #[.int .i64 a0_0, .int .i64 a0_1, .string a0_2, .slice A0_3 l0_3.length c0_3, .slice A0_4 l0_4.length c0_4] 25 (0, 0)) (by (with_reducible repeat (first | refine blk_drewN ?_ _ | refine blk_drew ?_ | refine blk_alloc ?_ _)); exact BK566.out)) : gb566 ≠ gb577)); have n8_ := Aside0.mk ((by rw [hg]; exact Nat.ne_of_gt (blk_lt (g := gb566) (o := .cells #[.int .i64 a0_0, .int .i64 a0_1, .string a0_2, .slice A0_3 l0_3.length c0_3, .slice A0_4 l0_4.length c0_4] 25 (0, 0)) (by (with_reducible repeat (first | refine blk_drewN ?_ _ | refine blk_drew ?_ | refine blk_alloc ?_ _)); exact BK566.out)) : gb577 ≠ gb566)); clear HO572; clear HO575; clear BK566; clear HB; have HO572 := n0_; have HO575 := n1_; have BK566 := n2_; have HB := n3_; have BK577 := n4_; have GW577 := n5_; have GE577 := n6_; have NB566_577 := n7_; have NB577_566 := n8_; clear n0_ n1_ n2_ n3_ n4_ n5_ n6_ n7_ n8_; clear hb hbox hg; have hnb18 := NB577_566.out; have hnc18 := NB566_577.out; have hcz19_0 : w17.cell? ⟨gb577, 0, none⟩ = some (.int .i64 0) := (blk_cell BK577.out 0).trans rfl; have hcz19_1 : w17.cell? ⟨gb577, 1, none⟩ = some (.int .i64 0) := (blk_cell BK577.out 1).trans rfl; have hcz19_2 : w17.cell? ⟨gb577, 2, none⟩ = some (.string (⟨#[]⟩ : ByteArray)) := (blk_cell BK577.out 2).trans rfl; have hcz19_3 : w17.cell? ⟨gb577, 3, none⟩ = some (.slice none 0 0) := (blk_cell BK577.out 3).trans rfl; have hcz19_4 : w17.cell? ⟨gb577, 4, none⟩ = some (.slice none 0 0) := (blk_cell BK577.out 4).trans rfl; have hfz19_0 := blk_frozen BK577.out 0; have hfz19_1 := blk_frozen BK577.out 1; have hfz19_2 := blk_frozen BK577.out 2; have hfz19_3 := blk_frozen BK577.out 3; have hfz19_4 := blk_frozen BK577.out 4; obtain ⟨Ao20, co20, eo20⟩ := Kd.V_slice HO572.out; subst eo20; obtain ⟨Ao21, co21, eo21⟩ := Kd.V_slice HO575.out; subst eo21))
      go_ret2
      exact ⟨by first | rfl | (simp [errW_none, errW_some] <;> rfl) | (simp [*, errW_none, errW_some] <;> rfl), by repeat (first | (with_reducible first | exact HB.out | apply below_alloc | apply pw_below_drewN | apply below_drew1 | refine below_set ?_ GE566.out | refine below_set ?_ GE577.out) | exact HB.out)⟩
  · replace c4 := Bool.eq_false_iff.mpr c4
    subst c4
    have H1 : (some ((⟨#[]⟩ : ByteArray), false)) = some (r1, r2) := by rw [if_neg (show ¬ (false = true) by decide)] at H; exact H
    clear H
    have H := H1
    clear H1
    simp only [Option.some.injEq, Prod.mk.injEq] at H
    obtain ⟨rfl, rfl⟩ := H
    go_enter Try.func32, Try.ntmps32
    go_wp2_with (first | ((with_reducible refine gate_dst (N := 2) rfl ?_); refine box_event ?hg (N := 2) ?hd (cs := #[.int .i64 a0_0, .int .i64 a0_1, .string a0_2, .slice A0_3 l0_3.length c0_3, .slice A0_4 l0_4.length c0_4]) (t := 25) ?hr ?_; (case hd => rfl); (case hg => rfl); (case hr => first | (go_simp; done) | (go_simp; rfl)); intro gb566 hg w22 hbox hb; have n0_ := Aside0.mk (below_step (by repeat (first | (with_reducible first | exact HB.out | apply below_alloc | apply pw_below_drewN | apply below_drew1) | exact HB.out)) hb); have n1_ := Aside0.mk (hbox); have n2_ := Aside0.mk ((by rw [hg]; exact (below_size (by repeat (first | (with_reducible first | exact HB.out | apply below_alloc | apply pw_below_drewN | apply below_drew1) | exact HB.out))) : w.heap.size ≤ gb566)); have n3_ := Aside0.mk ((by rw [hg]; exact (below_size (by repeat (first | (with_reducible first | exact HB.out | apply below_alloc | apply pw_below_drewN | apply below_drew1) | exact HB.out))) : w.heap.size ≤ gb566)); clear HB; have HB := n0_; have BK566 := n1_; have GW566 := n2_; have GE566 := n3_; clear n0_ n1_ n2_ n3_; clear hb hbox hg; have hcz23_0 : w22.cell? ⟨gb566, 0, none⟩ = some (.int .i64 a0_0) := (blk_cell BK566.out 0).trans rfl; have hcz23_1 : w22.cell? ⟨gb566, 1, none⟩ = some (.int .i64 a0_1) := (blk_cell BK566.out 1).trans rfl; have hcz23_2 : w22.cell? ⟨gb566, 2, none⟩ = some (.string a0_2) := (blk_cell BK566.out 2).trans rfl; have hcz23_3 : w22.cell? ⟨gb566, 3, none⟩ = some (.slice A0_3 l0_3.length c0_3) := (blk_cell BK566.out 3).trans rfl; have hcz23_4 : w22.cell? ⟨gb566, 4, none⟩ = some (.slice A0_4 l0_4.length c0_4) := (blk_cell BK566.out 4).trans rfl; have hfz23_0 := blk_frozen BK566.out 0; have hfz23_1 := blk_frozen BK566.out 1; have hfz23_2 := blk_frozen BK566.out 2; have hfz23_3 := blk_frozen BK566.out 3; have hfz23_4 := blk_frozen BK566.out 4) | ((with_reducible refine gate_callee (f := 61) rfl ?_); refine goesL_ (some 11) rfl rfl Try.func61 (by kernel_rfl) rfl #[.agg #[.int .i64 a0_0, .int .i64 a0_1, .string a0_2, .slice A0_3 l0_3.length c0_3, .slice A0_4 l0_4.length c0_4], .string a1] rfl (by (try simp only [List.map_toArray, List.map_cons, List.map_nil]); first | done | rfl | (simp only [List.length_drop, List.length_take]; rfl)) ?_; (with_reducible refine (tree_Get.calls k a0_0 a0_1 a0_2 _ _ l0_3 (fun k_ => k_ < w.heap.size) _ _ l0_4 a1 t567 t568 t569 t570 t573 false _ ?side1 ?side2 ?side3 A3.out).mono ?_); (case side1 => repeat (first | exact (Kd.C_below HR0_3.out HB.out) | (with_reducible refine Kd.C_alloc ?_ _) | (with_reducible refine Kd.C_drewN ?_ _) | (with_reducible refine Kd.C_drew ?_))); (case side2 => exact HC0_3.out); (case side3 => exact Kd.V_mk HC0_4.out (Kd.F_below (Kd.C_F k25_heap HR0_4.out) (by repeat (first | (with_reducible first | exact HB.out | apply below_alloc | apply pw_below_drewN | apply below_drew1 | refine below_set ?_ GE566.out) | exact HB.out)))); rintro e w24 ⟨v571, v574, rfl, ho0, ho1, hb⟩; refine ⟨_, rfl, ?_⟩; have n0_ := Aside0.mk (Kd.V_lower (Kd.V_mono (ok' := fun k_ => k_ ≠ gb566) ho0 (fun k_ hk_ => Or.elim hk_ (fun hs_ => fun e_ => Nat.not_le.2 hs_ (by rw [e_]; exact GW566.out)) (fun hn_ => (Kd.freshB (g := gb566) (o := .cells #[.int .i64 a0_0, .int .i64 a0_1, .string a0_2, .slice A0_3 l0_3.length c0_3, .slice A0_4 l0_4.length c0_4] 25 (0, 0)) (by (with_reducible repeat (first | refine blk_drewN ?_ _ | refine blk_drew ?_ | refine blk_alloc ?_ _)); exact BK566.out) k_ hn_)))) (below_size (by repeat (first | (with_reducible first | exact HB.out | apply below_alloc | apply pw_below_drewN | apply below_drew1 | refine below_set ?_ GE566.out) | exact HB.out)))); have n1_ := Aside0.mk (Kd.V_lower (Kd.V_mono (ok' := fun k_ => k_ ≠ gb566) ho1 (fun k_ hk_ => Or.elim hk_ (fun hs_ => fun e_ => Nat.not_le.2 hs_ (by rw [e_]; exact GW566.out)) (fun hn_ => (Kd.freshB (g := gb566) (o := .cells #[.int .i64 a0_0, .int .i64 a0_1, .string a0_2, .slice A0_3 l0_3.length c0_3, .slice A0_4 l0_4.length c0_4] 25 (0, 0)) (by (with_reducible repeat (first | refine blk_drewN ?_ _ | refine blk_drew ?_ | refine blk_alloc ?_ _)); exact BK566.out) k_ hn_)))) (below_size (by repeat (first | (with_reducible first | exact HB.out | apply below_alloc | apply pw_below_drewN | apply below_drew1 | refine below_set ?_ GE566.out) | exact HB.out)))); have n2_ := Aside0.mk (blk_below (g := gb566) (o := .cells #[.int .i64 a0_0, .int .i64 a0_1, .string a0_2, .slice A0_3 l0_3.length c0_3, .slice A0_4 l0_4.length c0_4] 25 (0, 0)) (by (with_reducible repeat (first | refine blk_drewN ?_ _ | refine blk_drew ?_ | refine blk_alloc ?_ _)); exact BK566.out) hb); have n3_ := Aside0.mk (below_step (by repeat (first | (with_reducible first | exact HB.out | apply below_alloc | apply pw_below_drewN | apply below_drew1 | refine below_set ?_ GE566.out) | exact HB.out)) hb); clear BK566; clear HB; have HO572 := n0_; have HO575 := n1_; have BK566 := n2_; have HB := n3_; clear n0_ n1_ n2_ n3_; (try clear hb); (try clear hb2); (try clear hk); (try clear hi); (try clear ho0); (try clear ho1)) | ((with_reducible refine gate_dst (N := 6) rfl ?_); refine box_event ?hg (N := 6) ?hd (cs := #[.int .i64 0, .int .i64 0, .string (⟨#[]⟩ : ByteArray), .slice none 0 0, .slice none 0 0]) (t := 25) ?hr ?_; (case hd => rfl); (case hg => rfl); (case hr => first | (go_simp; done) | (go_simp; rfl)); intro gb577 hg w25 hbox hb; have n0_ := Aside0.mk (Kd.V_below (Kd.V_elderB (by (with_reducible repeat (first | apply Kd.V_alloc | apply Kd.V_drewN | apply Kd.V_drew)); exact HO572.out) gb577 (Nat.le_of_eq hg.symm)) hb); have n1_ := Aside0.mk (Kd.V_below (Kd.V_elderB (by (with_reducible repeat (first | apply Kd.V_alloc | apply Kd.V_drewN | apply Kd.V_drew)); exact HO575.out) gb577 (Nat.le_of_eq hg.symm)) hb); have n2_ := Aside0.mk (blk_below (g := gb566) (o := .cells #[.int .i64 a0_0, .int .i64 a0_1, .string a0_2, .slice A0_3 l0_3.length c0_3, .slice A0_4 l0_4.length c0_4] 25 (0, 0)) (by (with_reducible repeat (first | refine blk_drewN ?_ _ | refine blk_drew ?_ | refine blk_alloc ?_ _)); exact BK566.out) hb); have n3_ := Aside0.mk (below_step (by repeat (first | (with_reducible first | exact HB.out | apply below_alloc | apply pw_below_drewN | apply below_drew1 | refine below_set ?_ GE566.out) | exact HB.out)) hb); have n4_ := Aside0.mk (hbox); have n5_ := Aside0.mk ((by rw [hg]; exact (below_size (by repeat (first | (with_reducible first | exact HB.out | apply below_alloc | apply pw_below_drewN | apply below_drew1 | refine below_set ?_ GE566.out) | exact HB.out))) : w.heap.size ≤ gb577)); have n6_ := Aside0.mk ((by rw [hg]; exact (below_size (by repeat (first | (with_reducible first | exact HB.out | apply below_alloc | apply pw_below_drewN | apply below_drew1 | refine below_set ?_ GE566.out) | exact HB.out))) : w.heap.size ≤ gb577)); have n7_ := Aside0.mk ((by rw [hg]; exact Nat.ne_of_lt (blk_lt (g := gb566) (o := .cells #[.int .i64 a0_0, .int .i64 a0_1, .string a0_2, .slice A0_3 l0_3.length c0_3, .slice A0_4 l0_4.length c0_4] 25 (0, 0)) (by (with_reducible repeat (first | refine blk_drewN ?_ _ | refine blk_drew ?_ | refine blk_alloc ?_ _)); exact BK566.out)) : gb566 ≠ gb577)); have n8_ := Aside0.mk ((by rw [hg]; exact Nat.ne_of_gt (blk_lt (g := gb566) (o := .cells #[.int .i64 a0_0, .int .i64 a0_1, .string a0_2, .slice A0_3 l0_3.length c0_3, .slice A0_4 l0_4.length c0_4] 25 (0, 0)) (by (with_reducible repeat (first | refine blk_drewN ?_ _ | refine blk_drew ?_ | refine blk_alloc ?_ _)); exact BK566.out)) : gb577 ≠ gb566)); clear HO572; clear HO575; clear BK566; clear HB; have HO572 := n0_; have HO575 := n1_; have BK566 := n2_; have HB := n3_; have BK577 := n4_; have GW577 := n5_; have GE577 := n6_; have NB566_577 := n7_; have NB577_566 := n8_; clear n0_ n1_ n2_ n3_ n4_ n5_ n6_ n7_ n8_; clear hb hbox hg; have hnb26 := NB577_566.out; have hnc26 := NB566_577.out; have hcz27_0 : w25.cell? ⟨gb577, 0, none⟩ = some (.int .i64 0) := (blk_cell BK577.out 0).trans rfl; have hcz27_1 : w25.cell? ⟨gb577, 1, none⟩ = some (.int .i64 0) := (blk_cell BK577.out 1).trans rfl; have hcz27_2 : w25.cell? ⟨gb577, 2, none⟩ = some (.string (⟨#[]⟩ : ByteArray)) := (blk_cell BK577.out 2).trans rfl; have hcz27_3 : w25.cell? ⟨gb577, 3, none⟩ = some (.slice none 0 0) := (blk_cell BK577.out 3).trans rfl; have hcz27_4 : w25.cell? ⟨gb577, 4, none⟩ = some (.slice none 0 0) := (blk_cell BK577.out 4).trans rfl; have hfz27_0 := blk_frozen BK577.out 0; have hfz27_1 := blk_frozen BK577.out 1; have hfz27_2 := blk_frozen BK577.out 2; have hfz27_3 := blk_frozen BK577.out 3; have hfz27_4 := blk_frozen BK577.out 4; obtain ⟨Ao28, co28, eo28⟩ := Kd.V_slice HO572.out; subst eo28; obtain ⟨Ao29, co29, eo29⟩ := Kd.V_slice HO575.out; subst eo29))
    go_ret2
    exact ⟨by first | rfl | (simp [errW_none, errW_some] <;> rfl) | (simp [*, errW_none, errW_some] <;> rfl), by repeat (first | (with_reducible first | exact HB.out | apply below_alloc | apply pw_below_drewN | apply below_drew1 | refine below_set ?_ GE566.out | refine below_set ?_ GE577.out) | exact HB.out)⟩
end Go.Proofs.Ytbnmcnghmnhigaa.X
end
section
namespace Go.Proofs.Ytbnmcnghmnhigaa.X
open Go.RowKit Go.Proofs.YtbnmcnghmnhigaaW.PrintWords Go.Proofs.YtbnmcnghmnhigaaW.PrintLast Go.Proofs.YtbnmcnghmnhigaaW.PrintMore
attribute [local go_sem] max2_int min2_int max_two min_two max_three min_three max_four min_four
set_option linter.unusedVariables false
set_option linter.unusedSimpArgs false
def sealringref29_Text.f (k : Nat) (a0_0 : Int) (a0_1 : Int) (a0_2 : ByteArray) (l0_3 : List ByteArray) (l0_4 : List (S25)) (a1 : ByteArray) : Option (ByteArray × Bool) := (sealringref07_Get.f k a0_0 a0_1 a0_2 l0_3 l0_4 a1).bind fun bt579 => (if bt579.2.2.2.2.2 = true then (if bt579.1 = 4 then (some (bt579.2.2.1, true)) else (some ((⟨#[]⟩ : ByteArray), false))) else (some ((⟨#[]⟩ : ByteArray), false)))
theorem sealringref29_Text.mono : ∀ a0 a1 a2 a3 a4 a5 k, LeO (sealringref29_Text.f k a0 a1 a2 a3 a4 a5) (sealringref29_Text.f (k + 1) a0 a1 a2 a3 a4 a5) := by
  intro a0 a1 a2 a3 a4 a5 k
  unfold sealringref29_Text.f
  repeat' first
      | (with_reducible exact sealringref07_Get.mono _ _ _ _ _ _ _)
      | (with_reducible exact LeO.refl _)
      | (with_reducible exact LeO.none _)
      | (with_reducible refine LeO.ite ?_ ?_)
      | (with_reducible refine LeO.bind ?_ (fun _ => ?_))
      | exact sealringref07_Get.mono _ _ _ _ _ _ _
      | exact LeO.none _
      | refine LeO.ite ?_ ?_
      | refine LeO.bind ?_ (fun _ => ?_)
set_option maxHeartbeats 8000000 in
set_option maxRecDepth 100000 in
theorem sealringref29_Text.calls (k : Nat) (a0_0 : Int) (a0_1 : Int) (a0_2 : ByteArray) (A0_3 : Option Addr) (c0_3 : Nat) (l0_3 : List ByteArray) (A0_4 : Option Addr) (c0_4 : Nat) (l0_4 : List (S25)) (a1 : ByteArray) (r1 : ByteArray) (r2 : Bool) (w : World) (hr0_3 : Kd.C Kd.string w A0_3 l0_3.length l0_3) (hc0_3 : l0_3.length ≤ c0_3) (hr0_4 : Kd.C k25 w A0_4 l0_4.length l0_4) (hc0_4 : l0_4.length ≤ c0_4) (h : sealringref29_Text.f k a0_0 a0_1 a0_2 l0_3 l0_4 a1 = some (r1, r2)) :
    Calls Try.prog 33 #[.agg #[.int .i64 a0_0, .int .i64 a0_1, .string a0_2, .slice A0_3 l0_3.length c0_3, .slice A0_4 l0_4.length c0_4], .string a1] w fun e w' => e = .returned (.tuple #[.string r1, .bool r2]) ∧ Below w.heap.size w w' := by
  have hu25 := Try.underlying25
  have HR0_3 := Aside0.mk hr0_3
  have HC0_3 := Aside0.mk hc0_3
  clear hr0_3 hc0_3
  have HR0_4 := Aside0.mk hr0_4
  have HC0_4 := Aside0.mk hc0_4
  clear hr0_4 hc0_4
  have HB := Aside0.mk (Below.refl w.heap.size w)
  have H : ((sealringref07_Get.f k a0_0 a0_1 a0_2 l0_3 l0_4 a1).bind fun bt579 => (if bt579.2.2.2.2.2 = true then (if bt579.1 = 4 then (some (bt579.2.2.1, true)) else (some ((⟨#[]⟩ : ByteArray), false))) else (some ((⟨#[]⟩ : ByteArray), false)))) = some (r1, r2) := h
  clear h
  replace H := Option.bind_eq_some_iff.mp H
  obtain ⟨⟨t579, t580, t581, t582, t585, t588⟩, A30, H⟩ := H
  replace H : (if t588 = true then (if t579 = 4 then (some (t581, true)) else (some ((⟨#[]⟩ : ByteArray), false))) else (some ((⟨#[]⟩ : ByteArray), false))) = some (r1, r2) := H
  have A3 := Aside0.mk A30
  clear A30
  by_cases c4 : t588 = true
  · subst c4
    have H1 : (if t579 = 4 then (some (t581, true)) else (some ((⟨#[]⟩ : ByteArray), false))) = some (r1, r2) := by rw [if_pos rfl] at H; exact H
    clear H
    have H := H1
    clear H1
    by_cases c5 : t579 = 4
    · rw [if_pos c5] at H
      have c5b0 : (t579 == 4) = true := beq_iff_eq.mpr c5
      have c5b1 : (t579 != 4) = false := bne_eq_false_iff_eq.mpr c5
      clear c5
      simp only [Option.some.injEq, Prod.mk.injEq] at H
      obtain ⟨rfl, rfl⟩ := H
      go_enter Try.func33, Try.ntmps33
      go_wp2_with (first | ((with_reducible refine gate_dst (N := 2) rfl ?_); refine box_event ?hg (N := 2) ?hd (cs := #[.int .i64 a0_0, .int .i64 a0_1, .string a0_2, .slice A0_3 l0_3.length c0_3, .slice A0_4 l0_4.length c0_4]) (t := 25) ?hr ?_; (case hd => rfl); (case hg => rfl); (case hr => first | (go_simp; done) | (go_simp; rfl)); intro gb578 hg w6 hbox hb; have n0_ := Aside0.mk (below_step (by repeat (first | (with_reducible first | exact HB.out | apply below_alloc | apply pw_below_drewN | apply below_drew1) | exact HB.out)) hb); have n1_ := Aside0.mk (hbox); have n2_ := Aside0.mk ((by rw [hg]; exact (below_size (by repeat (first | (with_reducible first | exact HB.out | apply below_alloc | apply pw_below_drewN | apply below_drew1) | exact HB.out))) : w.heap.size ≤ gb578)); have n3_ := Aside0.mk ((by rw [hg]; exact (below_size (by repeat (first | (with_reducible first | exact HB.out | apply below_alloc | apply pw_below_drewN | apply below_drew1) | exact HB.out))) : w.heap.size ≤ gb578)); clear HB; have HB := n0_; have BK578 := n1_; have GW578 := n2_; have GE578 := n3_; clear n0_ n1_ n2_ n3_; clear hb hbox hg; have hcz7_0 : w6.cell? ⟨gb578, 0, none⟩ = some (.int .i64 a0_0) := (blk_cell BK578.out 0).trans rfl; have hcz7_1 : w6.cell? ⟨gb578, 1, none⟩ = some (.int .i64 a0_1) := (blk_cell BK578.out 1).trans rfl; have hcz7_2 : w6.cell? ⟨gb578, 2, none⟩ = some (.string a0_2) := (blk_cell BK578.out 2).trans rfl; have hcz7_3 : w6.cell? ⟨gb578, 3, none⟩ = some (.slice A0_3 l0_3.length c0_3) := (blk_cell BK578.out 3).trans rfl; have hcz7_4 : w6.cell? ⟨gb578, 4, none⟩ = some (.slice A0_4 l0_4.length c0_4) := (blk_cell BK578.out 4).trans rfl; have hfz7_0 := blk_frozen BK578.out 0; have hfz7_1 := blk_frozen BK578.out 1; have hfz7_2 := blk_frozen BK578.out 2; have hfz7_3 := blk_frozen BK578.out 3; have hfz7_4 := blk_frozen BK578.out 4) | ((with_reducible refine gate_callee (f := 62) rfl ?_); refine goesL_ (some 11) rfl rfl Try.func62 (by kernel_rfl) rfl #[.agg #[.int .i64 a0_0, .int .i64 a0_1, .string a0_2, .slice A0_3 l0_3.length c0_3, .slice A0_4 l0_4.length c0_4], .string a1] rfl (by (try simp only [List.map_toArray, List.map_cons, List.map_nil]); first | done | rfl | (simp only [List.length_drop, List.length_take]; rfl)) ?_; (with_reducible refine (sealringref07_Get.calls k a0_0 a0_1 a0_2 _ _ l0_3 (fun k_ => k_ < w.heap.size) _ _ l0_4 a1 t579 t580 t581 t582 t585 true _ ?side1 ?side2 ?side3 A3.out).mono ?_); (case side1 => repeat (first | exact (Kd.C_below HR0_3.out HB.out) | (with_reducible refine Kd.C_alloc ?_ _) | (with_reducible refine Kd.C_drewN ?_ _) | (with_reducible refine Kd.C_drew ?_))); (case side2 => exact HC0_3.out); (case side3 => exact Kd.V_mk HC0_4.out (Kd.F_below (Kd.C_F k25_heap HR0_4.out) (by repeat (first | (with_reducible first | exact HB.out | apply below_alloc | apply pw_below_drewN | apply below_drew1 | refine below_set ?_ GE578.out) | exact HB.out)))); rintro e w8 ⟨v583, v586, rfl, ho0, ho1, hb⟩; refine ⟨_, rfl, ?_⟩; have n0_ := Aside0.mk (Kd.V_lower (Kd.V_mono (ok' := fun k_ => k_ ≠ gb578) ho0 (fun k_ hk_ => Or.elim hk_ (fun hs_ => fun e_ => Nat.not_le.2 hs_ (by rw [e_]; exact GW578.out)) (fun hn_ => (Kd.freshB (g := gb578) (o := .cells #[.int .i64 a0_0, .int .i64 a0_1, .string a0_2, .slice A0_3 l0_3.length c0_3, .slice A0_4 l0_4.length c0_4] 25 (0, 0)) (by (with_reducible repeat (first | refine blk_drewN ?_ _ | refine blk_drew ?_ | refine blk_alloc ?_ _)); exact BK578.out) k_ hn_)))) (below_size (by repeat (first | (with_reducible first | exact HB.out | apply below_alloc | apply pw_below_drewN | apply below_drew1 | refine below_set ?_ GE578.out) | exact HB.out)))); have n1_ := Aside0.mk (Kd.V_lower (Kd.V_mono (ok' := fun k_ => k_ ≠ gb578) ho1 (fun k_ hk_ => Or.elim hk_ (fun hs_ => fun e_ => Nat.not_le.2 hs_ (by rw [e_]; exact GW578.out)) (fun hn_ => (Kd.freshB (g := gb578) (o := .cells #[.int .i64 a0_0, .int .i64 a0_1, .string a0_2, .slice A0_3 l0_3.length c0_3, .slice A0_4 l0_4.length c0_4] 25 (0, 0)) (by (with_reducible repeat (first | refine blk_drewN ?_ _ | refine blk_drew ?_ | refine blk_alloc ?_ _)); exact BK578.out) k_ hn_)))) (below_size (by repeat (first | (with_reducible first | exact HB.out | apply below_alloc | apply pw_below_drewN | apply below_drew1 | refine below_set ?_ GE578.out) | exact HB.out)))); have n2_ := Aside0.mk (blk_below (g := gb578) (o := .cells #[.int .i64 a0_0, .int .i64 a0_1, .string a0_2, .slice A0_3 l0_3.length c0_3, .slice A0_4 l0_4.length c0_4] 25 (0, 0)) (by (with_reducible repeat (first | refine blk_drewN ?_ _ | refine blk_drew ?_ | refine blk_alloc ?_ _)); exact BK578.out) hb); have n3_ := Aside0.mk (below_step (by repeat (first | (with_reducible first | exact HB.out | apply below_alloc | apply pw_below_drewN | apply below_drew1 | refine below_set ?_ GE578.out) | exact HB.out)) hb); clear BK578; clear HB; have HO584 := n0_; have HO587 := n1_; have BK578 := n2_; have HB := n3_; clear n0_ n1_ n2_ n3_; (try clear hb); (try clear hb2); (try clear hk); (try clear hi); (try clear ho0); (try clear ho1)) | ((with_reducible refine gate_dst (N := 6) rfl ?_); refine box_event ?hg (N := 6) ?hd (cs := #[.int .i64 0, .int .i64 0, .string (⟨#[]⟩ : ByteArray), .slice none 0 0, .slice none 0 0]) (t := 25) ?hr ?_; (case hd => rfl); (case hg => rfl); (case hr => first | (go_simp; done) | (go_simp; rfl)); intro gb589 hg w9 hbox hb; have n0_ := Aside0.mk (Kd.V_below (Kd.V_elderB (by (with_reducible repeat (first | apply Kd.V_alloc | apply Kd.V_drewN | apply Kd.V_drew)); exact HO584.out) gb589 (Nat.le_of_eq hg.symm)) hb); have n1_ := Aside0.mk (Kd.V_below (Kd.V_elderB (by (with_reducible repeat (first | apply Kd.V_alloc | apply Kd.V_drewN | apply Kd.V_drew)); exact HO587.out) gb589 (Nat.le_of_eq hg.symm)) hb); have n2_ := Aside0.mk (blk_below (g := gb578) (o := .cells #[.int .i64 a0_0, .int .i64 a0_1, .string a0_2, .slice A0_3 l0_3.length c0_3, .slice A0_4 l0_4.length c0_4] 25 (0, 0)) (by (with_reducible repeat (first | refine blk_drewN ?_ _ | refine blk_drew ?_ | refine blk_alloc ?_ _)); exact BK578.out) hb); have n3_ := Aside0.mk (below_step (by repeat (first | (with_reducible first | exact HB.out | apply below_alloc | apply pw_below_drewN | apply below_drew1 | refine below_set ?_ GE578.out) | exact HB.out)) hb); have n4_ := Aside0.mk (hbox); have n5_ := Aside0.mk ((by rw [hg]; exact (below_size (by repeat (first | (with_reducible first | exact HB.out | apply below_alloc | apply pw_below_drewN | apply below_drew1 | refine below_set ?_ GE578.out) | exact HB.out))) : w.heap.size ≤ gb589)); have n6_ := Aside0.mk ((by rw [hg]; exact (below_size (by repeat (first | (with_reducible first | exact HB.out | apply below_alloc | apply pw_below_drewN | apply below_drew1 | refine below_set ?_ GE578.out) | exact HB.out))) : w.heap.size ≤ gb589)); have n7_ := Aside0.mk ((by rw [hg]; exact Nat.ne_of_lt (blk_lt (g := gb578) (o := .cells #[.int .i64 a0_0, .int .i64 a0_1, .string a0_2, .slice A0_3 l0_3.length c0_3, .slice A0_4 l0_4.length c0_4] 25 (0, 0)) (by (with_reducible repeat (first | refine blk_drewN ?_ _ | refine blk_drew ?_ | refine blk_alloc ?_ _)); exact BK578.out)) : gb578 ≠ gb589)); have n8_ := Aside0.mk ((by rw [hg]; exact Nat.ne_of_gt (blk_lt (g := gb578) (o := .cells #[.int .i64 a0_0, .int .i64 a0_1, .string a0_2, .slice A0_3 l0_3.length c0_3, .slice A0_4 l0_4.length c0_4] 25 (0, 0)) (by (with_reducible repeat (first | refine blk_drewN ?_ _ | refine blk_drew ?_ | refine blk_alloc ?_ _)); exact BK578.out)) : gb589 ≠ gb578)); clear HO584; clear HO587; clear BK578; clear HB; have HO584 := n0_; have HO587 := n1_; have BK578 := n2_; have HB := n3_; have BK589 := n4_; have GW589 := n5_; have GE589 := n6_; have NB578_589 := n7_; have NB589_578 := n8_; clear n0_ n1_ n2_ n3_ n4_ n5_ n6_ n7_ n8_; clear hb hbox hg; have hnb10 := NB589_578.out; have hnc10 := NB578_589.out; have hcz11_0 : w9.cell? ⟨gb589, 0, none⟩ = some (.int .i64 0) := (blk_cell BK589.out 0).trans rfl; have hcz11_1 : w9.cell? ⟨gb589, 1, none⟩ = some (.int .i64 0) := (blk_cell BK589.out 1).trans rfl; have hcz11_2 : w9.cell? ⟨gb589, 2, none⟩ = some (.string (⟨#[]⟩ : ByteArray)) := (blk_cell BK589.out 2).trans rfl; have hcz11_3 : w9.cell? ⟨gb589, 3, none⟩ = some (.slice none 0 0) := (blk_cell BK589.out 3).trans rfl; have hcz11_4 : w9.cell? ⟨gb589, 4, none⟩ = some (.slice none 0 0) := (blk_cell BK589.out 4).trans rfl; have hfz11_0 := blk_frozen BK589.out 0; have hfz11_1 := blk_frozen BK589.out 1; have hfz11_2 := blk_frozen BK589.out 2; have hfz11_3 := blk_frozen BK589.out 3; have hfz11_4 := blk_frozen BK589.out 4; obtain ⟨Ao12, co12, eo12⟩ := Kd.V_slice HO584.out; subst eo12; obtain ⟨Ao13, co13, eo13⟩ := Kd.V_slice HO587.out; subst eo13))
      go_ret2
      exact ⟨by first | rfl | (simp [errW_none, errW_some] <;> rfl) | (simp [*, errW_none, errW_some] <;> rfl), by repeat (first | (with_reducible first | exact HB.out | apply below_alloc | apply pw_below_drewN | apply below_drew1 | refine below_set ?_ GE578.out | refine below_set ?_ GE589.out) | exact HB.out)⟩
    · rw [if_neg c5] at H
      have c5b0 : (t579 == 4) = false := beq_eq_false_iff_ne.mpr c5
      have c5b1 : (t579 != 4) = true := bne_iff_ne.mpr c5
      simp only [Option.some.injEq, Prod.mk.injEq] at H
      obtain ⟨rfl, rfl⟩ := H
      go_enter Try.func33, Try.ntmps33
      go_wp2_with (first | ((with_reducible refine gate_dst (N := 2) rfl ?_); refine box_event ?hg (N := 2) ?hd (cs := #[.int .i64 a0_0, .int .i64 a0_1, .string a0_2, .slice A0_3 l0_3.length c0_3, .slice A0_4 l0_4.length c0_4]) (t := 25) ?hr ?_; (case hd => rfl); (case hg => rfl); (case hr => first | (go_simp; done) | (go_simp; rfl)); intro gb578 hg w14 hbox hb; have n0_ := Aside0.mk (below_step (by repeat (first | (with_reducible first | exact HB.out | apply below_alloc | apply pw_below_drewN | apply below_drew1) | exact HB.out)) hb); have n1_ := Aside0.mk (hbox); have n2_ := Aside0.mk ((by rw [hg]; exact (below_size (by repeat (first | (with_reducible first | exact HB.out | apply below_alloc | apply pw_below_drewN | apply below_drew1) | exact HB.out))) : w.heap.size ≤ gb578)); have n3_ := Aside0.mk ((by rw [hg]; exact (below_size (by repeat (first | (with_reducible first | exact HB.out | apply below_alloc | apply pw_below_drewN | apply below_drew1) | exact HB.out))) : w.heap.size ≤ gb578)); clear HB; have HB := n0_; have BK578 := n1_; have GW578 := n2_; have GE578 := n3_; clear n0_ n1_ n2_ n3_; clear hb hbox hg; have hcz15_0 : w14.cell? ⟨gb578, 0, none⟩ = some (.int .i64 a0_0) := (blk_cell BK578.out 0).trans rfl; have hcz15_1 : w14.cell? ⟨gb578, 1, none⟩ = some (.int .i64 a0_1) := (blk_cell BK578.out 1).trans rfl; have hcz15_2 : w14.cell? ⟨gb578, 2, none⟩ = some (.string a0_2) := (blk_cell BK578.out 2).trans rfl; have hcz15_3 : w14.cell? ⟨gb578, 3, none⟩ = some (.slice A0_3 l0_3.length c0_3) := (blk_cell BK578.out 3).trans rfl; have hcz15_4 : w14.cell? ⟨gb578, 4, none⟩ = some (.slice A0_4 l0_4.length c0_4) := (blk_cell BK578.out 4).trans rfl; have hfz15_0 := blk_frozen BK578.out 0; have hfz15_1 := blk_frozen BK578.out 1; have hfz15_2 := blk_frozen BK578.out 2; have hfz15_3 := blk_frozen BK578.out 3; have hfz15_4 := blk_frozen BK578.out 4) | ((with_reducible refine gate_callee (f := 62) rfl ?_); refine goesL_ (some 11) rfl rfl Try.func62 (by kernel_rfl) rfl #[.agg #[.int .i64 a0_0, .int .i64 a0_1, .string a0_2, .slice A0_3 l0_3.length c0_3, .slice A0_4 l0_4.length c0_4], .string a1] rfl (by (try simp only [List.map_toArray, List.map_cons, List.map_nil]); first | done | rfl | (simp only [List.length_drop, List.length_take]; rfl)) ?_; (with_reducible refine (sealringref07_Get.calls k a0_0 a0_1 a0_2 _ _ l0_3 (fun k_ => k_ < w.heap.size) _ _ l0_4 a1 t579 t580 t581 t582 t585 true _ ?side1 ?side2 ?side3 A3.out).mono ?_); (case side1 => repeat (first | exact (Kd.C_below HR0_3.out HB.out) | (with_reducible refine Kd.C_alloc ?_ _) | (with_reducible refine Kd.C_drewN ?_ _) | (with_reducible refine Kd.C_drew ?_))); (case side2 => exact HC0_3.out); (case side3 => exact Kd.V_mk HC0_4.out (Kd.F_below (Kd.C_F k25_heap HR0_4.out) (by repeat (first | (with_reducible first | exact HB.out | apply below_alloc | apply pw_below_drewN | apply below_drew1 | refine below_set ?_ GE578.out) | exact HB.out)))); rintro e w16 ⟨v583, v586, rfl, ho0, ho1, hb⟩; refine ⟨_, rfl, ?_⟩; have n0_ := Aside0.mk (Kd.V_lower (Kd.V_mono (ok' := fun k_ => k_ ≠ gb578) ho0 (fun k_ hk_ => Or.elim hk_ (fun hs_ => fun e_ => Nat.not_le.2 hs_ (by rw [e_]; exact GW578.out)) (fun hn_ => (Kd.freshB (g := gb578) (o := .cells #[.int .i64 a0_0, .int .i64 a0_1, .string a0_2, .slice A0_3 l0_3.length c0_3, .slice A0_4 l0_4.length c0_4] 25 (0, 0)) (by (with_reducible repeat (first | refine blk_drewN ?_ _ | refine blk_drew ?_ | refine blk_alloc ?_ _)); exact BK578.out) k_ hn_)))) (below_size (by repeat (first | (with_reducible first | exact HB.out | apply below_alloc | apply pw_below_drewN | apply below_drew1 | refine below_set ?_ GE578.out) | exact HB.out)))); have n1_ := Aside0.mk (Kd.V_lower (Kd.V_mono (ok' := fun k_ => k_ ≠ gb578) ho1 (fun k_ hk_ => Or.elim hk_ (fun hs_ => fun e_ => Nat.not_le.2 hs_ (by rw [e_]; exact GW578.out)) (fun hn_ => (Kd.freshB (g := gb578) (o := .cells #[.int .i64 a0_0, .int .i64 a0_1, .string a0_2, .slice A0_3 l0_3.length c0_3, .slice A0_4 l0_4.length c0_4] 25 (0, 0)) (by (with_reducible repeat (first | refine blk_drewN ?_ _ | refine blk_drew ?_ | refine blk_alloc ?_ _)); exact BK578.out) k_ hn_)))) (below_size (by repeat (first | (with_reducible first | exact HB.out | apply below_alloc | apply pw_below_drewN | apply below_drew1 | refine below_set ?_ GE578.out) | exact HB.out)))); have n2_ := Aside0.mk (blk_below (g := gb578) (o := .cells #[.int .i64 a0_0, .int .i64 a0_1, .string a0_2, .slice A0_3 l0_3.length c0_3, .slice A0_4 l0_4.length c0_4] 25 (0, 0)) (by (with_reducible repeat (first | refine blk_drewN ?_ _ | refine blk_drew ?_ | refine blk_alloc ?_ _)); exact BK578.out) hb); have n3_ := Aside0.mk (below_step (by repeat (first | (with_reducible first | exact HB.out | apply below_alloc | apply pw_below_drewN | apply below_drew1 | refine below_set ?_ GE578.out) | exact HB.out)) hb); clear BK578; clear HB; have HO584 := n0_; have HO587 := n1_; have BK578 := n2_; have HB := n3_; clear n0_ n1_ n2_ n3_; (try clear hb); (try clear hb2); (try clear hk); (try clear hi); (try clear ho0); (try clear ho1)) | ((with_reducible refine gate_dst (N := 6) rfl ?_); refine box_event ?hg (N := 6) ?hd (cs := #[.int .i64 0, .int .i64 0, .string (⟨#[]⟩ : ByteArray), .slice none 0 0, .slice none 0 0]) (t := 25) ?hr ?_; (case hd => rfl); (case hg => rfl); (case hr => first | (go_simp; done) | (go_simp; rfl)); intro gb589 hg w17 hbox hb; have n0_ := Aside0.mk (Kd.V_below (Kd.V_elderB (by (with_reducible repeat (first | apply Kd.V_alloc | apply Kd.V_drewN | apply Kd.V_drew)); exact HO584.out) gb589 (Nat.le_of_eq hg.symm)) hb); have n1_ := Aside0.mk (Kd.V_below (Kd.V_elderB (by (with_reducible repeat (first | apply Kd.V_alloc | apply Kd.V_drewN | apply Kd.V_drew)); exact HO587.out) gb589 (Nat.le_of_eq hg.symm)) hb); have n2_ := Aside0.mk (blk_below (g := gb578) (o := .cells #[.int .i64 a0_0, .int .i64 a0_1, .string a0_2, .slice A0_3 l0_3.length c0_3, .slice A0_4 l0_4.length c0_4] 25 (0, 0)) (by (with_reducible repeat (first | refine blk_drewN ?_ _ | refine blk_drew ?_ | refine blk_alloc ?_ _)); exact BK578.out) hb); have n3_ := Aside0.mk (below_step (by repeat (first | (with_reducible first | exact HB.out | apply below_alloc | apply pw_below_drewN | apply below_drew1 | refine below_set ?_ GE578.out) | exact HB.out)) hb); have n4_ := Aside0.mk (hbox); have n5_ := Aside0.mk ((by rw [hg]; exact (below_size (by repeat (first | (with_reducible first | exact HB.out | apply below_alloc | apply pw_below_drewN | apply below_drew1 | refine below_set ?_ GE578.out) | exact HB.out))) : w.heap.size ≤ gb589)); have n6_ := Aside0.mk ((by rw [hg]; exact (below_size (by repeat (first | (with_reducible first | exact HB.out | apply below_alloc | apply pw_below_drewN | apply below_drew1 | refine below_set ?_ GE578.out) | exact HB.out))) : w.heap.size ≤ gb589)); have n7_ := Aside0.mk ((by rw [hg]; exact Nat.ne_of_lt (blk_lt (g := gb578) (o := .cells #[.int .i64 a0_0, .int .i64 a0_1, .string a0_2, .slice A0_3 l0_3.length c0_3, .slice A0_4 l0_4.length c0_4] 25 (0, 0)) (by (with_reducible repeat (first | refine blk_drewN ?_ _ | refine blk_drew ?_ | refine blk_alloc ?_ _)); exact BK578.out)) : gb578 ≠ gb589)); have n8_ := Aside0.mk ((by rw [hg]; exact Nat.ne_of_gt (blk_lt (g := gb578) (o := .cells #[.int .i64 a0_0, .int .i64 a0_1, .string a0_2, .slice A0_3 l0_3.length c0_3, .slice A0_4 l0_4.length c0_4] 25 (0, 0)) (by (with_reducible repeat (first | refine blk_drewN ?_ _ | refine blk_drew ?_ | refine blk_alloc ?_ _)); exact BK578.out)) : gb589 ≠ gb578)); clear HO584; clear HO587; clear BK578; clear HB; have HO584 := n0_; have HO587 := n1_; have BK578 := n2_; have HB := n3_; have BK589 := n4_; have GW589 := n5_; have GE589 := n6_; have NB578_589 := n7_; have NB589_578 := n8_; clear n0_ n1_ n2_ n3_ n4_ n5_ n6_ n7_ n8_; clear hb hbox hg; have hnb18 := NB589_578.out; have hnc18 := NB578_589.out; have hcz19_0 : w17.cell? ⟨gb589, 0, none⟩ = some (.int .i64 0) := (blk_cell BK589.out 0).trans rfl; have hcz19_1 : w17.cell? ⟨gb589, 1, none⟩ = some (.int .i64 0) := (blk_cell BK589.out 1).trans rfl; have hcz19_2 : w17.cell? ⟨gb589, 2, none⟩ = some (.string (⟨#[]⟩ : ByteArray)) := (blk_cell BK589.out 2).trans rfl; have hcz19_3 : w17.cell? ⟨gb589, 3, none⟩ = some (.slice none 0 0) := (blk_cell BK589.out 3).trans rfl; have hcz19_4 : w17.cell? ⟨gb589, 4, none⟩ = some (.slice none 0 0) := (blk_cell BK589.out 4).trans rfl; have hfz19_0 := blk_frozen BK589.out 0; have hfz19_1 := blk_frozen BK589.out 1; have hfz19_2 := blk_frozen BK589.out 2; have hfz19_3 := blk_frozen BK589.out 3; have hfz19_4 := blk_frozen BK589.out 4; obtain ⟨Ao20, co20, eo20⟩ := Kd.V_slice HO584.out; subst eo20; obtain ⟨Ao21, co21, eo21⟩ := Kd.V_slice HO587.out; subst eo21))
      go_ret2
      exact ⟨by first | rfl | (simp [errW_none, errW_some] <;> rfl) | (simp [*, errW_none, errW_some] <;> rfl), by repeat (first | (with_reducible first | exact HB.out | apply below_alloc | apply pw_below_drewN | apply below_drew1 | refine below_set ?_ GE578.out | refine below_set ?_ GE589.out) | exact HB.out)⟩
  · replace c4 := Bool.eq_false_iff.mpr c4
    subst c4
    have H1 : (some ((⟨#[]⟩ : ByteArray), false)) = some (r1, r2) := by rw [if_neg (show ¬ (false = true) by decide)] at H; exact H
    clear H
    have H := H1
    clear H1
    simp only [Option.some.injEq, Prod.mk.injEq] at H
    obtain ⟨rfl, rfl⟩ := H
    go_enter Try.func33, Try.ntmps33
    go_wp2_with (first | ((with_reducible refine gate_dst (N := 2) rfl ?_); refine box_event ?hg (N := 2) ?hd (cs := #[.int .i64 a0_0, .int .i64 a0_1, .string a0_2, .slice A0_3 l0_3.length c0_3, .slice A0_4 l0_4.length c0_4]) (t := 25) ?hr ?_; (case hd => rfl); (case hg => rfl); (case hr => first | (go_simp; done) | (go_simp; rfl)); intro gb578 hg w22 hbox hb; have n0_ := Aside0.mk (below_step (by repeat (first | (with_reducible first | exact HB.out | apply below_alloc | apply pw_below_drewN | apply below_drew1) | exact HB.out)) hb); have n1_ := Aside0.mk (hbox); have n2_ := Aside0.mk ((by rw [hg]; exact (below_size (by repeat (first | (with_reducible first | exact HB.out | apply below_alloc | apply pw_below_drewN | apply below_drew1) | exact HB.out))) : w.heap.size ≤ gb578)); have n3_ := Aside0.mk ((by rw [hg]; exact (below_size (by repeat (first | (with_reducible first | exact HB.out | apply below_alloc | apply pw_below_drewN | apply below_drew1) | exact HB.out))) : w.heap.size ≤ gb578)); clear HB; have HB := n0_; have BK578 := n1_; have GW578 := n2_; have GE578 := n3_; clear n0_ n1_ n2_ n3_; clear hb hbox hg; have hcz23_0 : w22.cell? ⟨gb578, 0, none⟩ = some (.int .i64 a0_0) := (blk_cell BK578.out 0).trans rfl; have hcz23_1 : w22.cell? ⟨gb578, 1, none⟩ = some (.int .i64 a0_1) := (blk_cell BK578.out 1).trans rfl; have hcz23_2 : w22.cell? ⟨gb578, 2, none⟩ = some (.string a0_2) := (blk_cell BK578.out 2).trans rfl; have hcz23_3 : w22.cell? ⟨gb578, 3, none⟩ = some (.slice A0_3 l0_3.length c0_3) := (blk_cell BK578.out 3).trans rfl; have hcz23_4 : w22.cell? ⟨gb578, 4, none⟩ = some (.slice A0_4 l0_4.length c0_4) := (blk_cell BK578.out 4).trans rfl; have hfz23_0 := blk_frozen BK578.out 0; have hfz23_1 := blk_frozen BK578.out 1; have hfz23_2 := blk_frozen BK578.out 2; have hfz23_3 := blk_frozen BK578.out 3; have hfz23_4 := blk_frozen BK578.out 4) | ((with_reducible refine gate_callee (f := 62) rfl ?_); refine goesL_ (some 11) rfl rfl Try.func62 (by kernel_rfl) rfl #[.agg #[.int .i64 a0_0, .int .i64 a0_1, .string a0_2, .slice A0_3 l0_3.length c0_3, .slice A0_4 l0_4.length c0_4], .string a1] rfl (by (try simp only [List.map_toArray, List.map_cons, List.map_nil]); first | done | rfl | (simp only [List.length_drop, List.length_take]; rfl)) ?_; (with_reducible refine (sealringref07_Get.calls k a0_0 a0_1 a0_2 _ _ l0_3 (fun k_ => k_ < w.heap.size) _ _ l0_4 a1 t579 t580 t581 t582 t585 false _ ?side1 ?side2 ?side3 A3.out).mono ?_); (case side1 => repeat (first | exact (Kd.C_below HR0_3.out HB.out) | (with_reducible refine Kd.C_alloc ?_ _) | (with_reducible refine Kd.C_drewN ?_ _) | (with_reducible refine Kd.C_drew ?_))); (case side2 => exact HC0_3.out); (case side3 => exact Kd.V_mk HC0_4.out (Kd.F_below (Kd.C_F k25_heap HR0_4.out) (by repeat (first | (with_reducible first | exact HB.out | apply below_alloc | apply pw_below_drewN | apply below_drew1 | refine below_set ?_ GE578.out) | exact HB.out)))); rintro e w24 ⟨v583, v586, rfl, ho0, ho1, hb⟩; refine ⟨_, rfl, ?_⟩; have n0_ := Aside0.mk (Kd.V_lower (Kd.V_mono (ok' := fun k_ => k_ ≠ gb578) ho0 (fun k_ hk_ => Or.elim hk_ (fun hs_ => fun e_ => Nat.not_le.2 hs_ (by rw [e_]; exact GW578.out)) (fun hn_ => (Kd.freshB (g := gb578) (o := .cells #[.int .i64 a0_0, .int .i64 a0_1, .string a0_2, .slice A0_3 l0_3.length c0_3, .slice A0_4 l0_4.length c0_4] 25 (0, 0)) (by (with_reducible repeat (first | refine blk_drewN ?_ _ | refine blk_drew ?_ | refine blk_alloc ?_ _)); exact BK578.out) k_ hn_)))) (below_size (by repeat (first | (with_reducible first | exact HB.out | apply below_alloc | apply pw_below_drewN | apply below_drew1 | refine below_set ?_ GE578.out) | exact HB.out)))); have n1_ := Aside0.mk (Kd.V_lower (Kd.V_mono (ok' := fun k_ => k_ ≠ gb578) ho1 (fun k_ hk_ => Or.elim hk_ (fun hs_ => fun e_ => Nat.not_le.2 hs_ (by rw [e_]; exact GW578.out)) (fun hn_ => (Kd.freshB (g := gb578) (o := .cells #[.int .i64 a0_0, .int .i64 a0_1, .string a0_2, .slice A0_3 l0_3.length c0_3, .slice A0_4 l0_4.length c0_4] 25 (0, 0)) (by (with_reducible repeat (first | refine blk_drewN ?_ _ | refine blk_drew ?_ | refine blk_alloc ?_ _)); exact BK578.out) k_ hn_)))) (below_size (by repeat (first | (with_reducible first | exact HB.out | apply below_alloc | apply pw_below_drewN | apply below_drew1 | refine below_set ?_ GE578.out) | exact HB.out)))); have n2_ := Aside0.mk (blk_below (g := gb578) (o := .cells #[.int .i64 a0_0, .int .i64 a0_1, .string a0_2, .slice A0_3 l0_3.length c0_3, .slice A0_4 l0_4.length c0_4] 25 (0, 0)) (by (with_reducible repeat (first | refine blk_drewN ?_ _ | refine blk_drew ?_ | refine blk_alloc ?_ _)); exact BK578.out) hb); have n3_ := Aside0.mk (below_step (by repeat (first | (with_reducible first | exact HB.out | apply below_alloc | apply pw_below_drewN | apply below_drew1 | refine below_set ?_ GE578.out) | exact HB.out)) hb); clear BK578; clear HB; have HO584 := n0_; have HO587 := n1_; have BK578 := n2_; have HB := n3_; clear n0_ n1_ n2_ n3_; (try clear hb); (try clear hb2); (try clear hk); (try clear hi); (try clear ho0); (try clear ho1)) | ((with_reducible refine gate_dst (N := 6) rfl ?_); refine box_event ?hg (N := 6) ?hd (cs := #[.int .i64 0, .int .i64 0, .string (⟨#[]⟩ : ByteArray), .slice none 0 0, .slice none 0 0]) (t := 25) ?hr ?_; (case hd => rfl); (case hg => rfl); (case hr => first | (go_simp; done) | (go_simp; rfl)); intro gb589 hg w25 hbox hb; have n0_ := Aside0.mk (Kd.V_below (Kd.V_elderB (by (with_reducible repeat (first | apply Kd.V_alloc | apply Kd.V_drewN | apply Kd.V_drew)); exact HO584.out) gb589 (Nat.le_of_eq hg.symm)) hb); have n1_ := Aside0.mk (Kd.V_below (Kd.V_elderB (by (with_reducible repeat (first | apply Kd.V_alloc | apply Kd.V_drewN | apply Kd.V_drew)); exact HO587.out) gb589 (Nat.le_of_eq hg.symm)) hb); have n2_ := Aside0.mk (blk_below (g := gb578) (o := .cells #[.int .i64 a0_0, .int .i64 a0_1, .string a0_2, .slice A0_3 l0_3.length c0_3, .slice A0_4 l0_4.length c0_4] 25 (0, 0)) (by (with_reducible repeat (first | refine blk_drewN ?_ _ | refine blk_drew ?_ | refine blk_alloc ?_ _)); exact BK578.out) hb); have n3_ := Aside0.mk (below_step (by repeat (first | (with_reducible first | exact HB.out | apply below_alloc | apply pw_below_drewN | apply below_drew1 | refine below_set ?_ GE578.out) | exact HB.out)) hb); have n4_ := Aside0.mk (hbox); have n5_ := Aside0.mk ((by rw [hg]; exact (below_size (by repeat (first | (with_reducible first | exact HB.out | apply below_alloc | apply pw_below_drewN | apply below_drew1 | refine below_set ?_ GE578.out) | exact HB.out))) : w.heap.size ≤ gb589)); have n6_ := Aside0.mk ((by rw [hg]; exact (below_size (by repeat (first | (with_reducible first | exact HB.out | apply below_alloc | apply pw_below_drewN | apply below_drew1 | refine below_set ?_ GE578.out) | exact HB.out))) : w.heap.size ≤ gb589)); have n7_ := Aside0.mk ((by rw [hg]; exact Nat.ne_of_lt (blk_lt (g := gb578) (o := .cells #[.int .i64 a0_0, .int .i64 a0_1, .string a0_2, .slice A0_3 l0_3.length c0_3, .slice A0_4 l0_4.length c0_4] 25 (0, 0)) (by (with_reducible repeat (first | refine blk_drewN ?_ _ | refine blk_drew ?_ | refine blk_alloc ?_ _)); exact BK578.out)) : gb578 ≠ gb589)); have n8_ := Aside0.mk ((by rw [hg]; exact Nat.ne_of_gt (blk_lt (g := gb578) (o := .cells #[.int .i64 a0_0, .int .i64 a0_1, .string a0_2, .slice A0_3 l0_3.length c0_3, .slice A0_4 l0_4.length c0_4] 25 (0, 0)) (by (with_reducible repeat (first | refine blk_drewN ?_ _ | refine blk_drew ?_ | refine blk_alloc ?_ _)); exact BK578.out)) : gb589 ≠ gb578)); clear HO584; clear HO587; clear BK578; clear HB; have HO584 := n0_; have HO587 := n1_; have BK578 := n2_; have HB := n3_; have BK589 := n4_; have GW589 := n5_; have GE589 := n6_; have NB578_589 := n7_; have NB589_578 := n8_; clear n0_ n1_ n2_ n3_ n4_ n5_ n6_ n7_ n8_; clear hb hbox hg; have hnb26 := NB589_578.out; have hnc26 := NB578_589.out; have hcz27_0 : w25.cell? ⟨gb589, 0, none⟩ = some (.int .i64 0) := (blk_cell BK589.out 0).trans rfl; have hcz27_1 : w25.cell? ⟨gb589, 1, none⟩ = some (.int .i64 0) := (blk_cell BK589.out 1).trans rfl; have hcz27_2 : w25.cell? ⟨gb589, 2, none⟩ = some (.string (⟨#[]⟩ : ByteArray)) := (blk_cell BK589.out 2).trans rfl; have hcz27_3 : w25.cell? ⟨gb589, 3, none⟩ = some (.slice none 0 0) := (blk_cell BK589.out 3).trans rfl; have hcz27_4 : w25.cell? ⟨gb589, 4, none⟩ = some (.slice none 0 0) := (blk_cell BK589.out 4).trans rfl; have hfz27_0 := blk_frozen BK589.out 0; have hfz27_1 := blk_frozen BK589.out 1; have hfz27_2 := blk_frozen BK589.out 2; have hfz27_3 := blk_frozen BK589.out 3; have hfz27_4 := blk_frozen BK589.out 4; obtain ⟨Ao28, co28, eo28⟩ := Kd.V_slice HO584.out; subst eo28; obtain ⟨Ao29, co29, eo29⟩ := Kd.V_slice HO587.out; subst eo29))
    go_ret2
    exact ⟨by first | rfl | (simp [errW_none, errW_some] <;> rfl) | (simp [*, errW_none, errW_some] <;> rfl), by repeat (first | (with_reducible first | exact HB.out | apply below_alloc | apply pw_below_drewN | apply below_drew1 | refine below_set ?_ GE578.out | refine below_set ?_ GE589.out) | exact HB.out)⟩
end Go.Proofs.Ytbnmcnghmnhigaa.X
end
