/- UtfReads answers true at every text, place and bound. -/
import Derived.Test.YtijfbnkohnlmaaaSUtfAll
import Derived.Test.YtijfbnkohnlmaaaX10
import Derived.Test.YtijfbnkohnlmaaaX11
import Derived.Test.YtijfbnkohnlmaaaX12
import Derived.Test.YtijfbnkohnlmaaaX5
namespace Go.Proofs.Ytijfbnkohnlmaaa.X
open Go.RowKit Go.Shelf Go.Proofs.YtijfbnkohnlmaaaW.PrintWords
attribute [local go_sem] Oper.semAt_some
set_option linter.unusedVariables false
set_option linter.unusedSimpArgs false
theorem lives_in (n : Nat) (w : World) : CallsIn Fence.wide n Try.prog 9 #[] w fun e w' => e = .returned (.bool true) ∧ Below w.heap.size w w' := by
  obtain ⟨k, hk⟩ := lives03.rounds
  exact callsIn_wide.2 (sealringlaw03_lives.calls k true w hk)
/-- The law's own two boxes: how many are wanted, and what is answered. -/
structure URs (w : World) (most : Int) (b : Bool) (W : World) : Prop where
  m : W.cell? ⟨w.heap.size, 0, none⟩ = some (.int .i64 most)
  c : W.cell? ⟨w.heap.size + 1, 0, none⟩ = some (.bool b)
  f : W.frozen? ⟨w.heap.size + 1, 0, none⟩ = false
  B : Below w.heap.size w W
  z : w.heap.size + 2 ≤ W.heap.size
theorem URs.start (w : World) (most : Int) (t u : TypeId) : URs w most false ((w.alloc (.cells #[.int .i64 most] t)).alloc (.cells #[.bool false] u)) := by
  have h1 := boxv w (.int .i64 most) t
  have h2 := boxv (w.alloc (.cells #[.int .i64 most] t)) (.bool false) u
  rw [World.size_alloc] at h2
  exact ⟨boxv_cell _ h1.1, h2.1, h2.2, ((Below.refl _ w).alloc (Nat.le_refl _) _).alloc (by simp) _, by simp⟩
theorem URs.step {w W w1 : World} {most : Int} {b : Bool} (h : URs w most b W) (hb : Below W.heap.size W w1) : URs w most b w1 :=
  ⟨(hb.cell (p := ⟨w.heap.size, 0, none⟩) (by have := h.z; show w.heap.size < _; omega)).trans h.m, (hb.cell (p := ⟨w.heap.size + 1, 0, none⟩) (by have := h.z; show w.heap.size + 1 < _; omega)).trans h.c,
    (hb.frozen (p := ⟨w.heap.size + 1, 0, none⟩) (by have := h.z; show w.heap.size + 1 < _; omega)).trans h.f, h.B.trans (hb.mono (by have := h.z; omega)), by have := h.z; have := hb.size; omega⟩
theorem URs.set {w W : World} {most : Int} {b : Bool} (h : URs w most b W) (b' : Bool) : URs w most b' (W.setCell ⟨w.heap.size + 1, 0, none⟩ (.bool b')) :=
  ⟨(World.cell?_setCell_other _ _ _ _ (fun e => by have := congrArg Addr.block e; simp at this)).trans h.m, World.cell?_setCell_same' _ _ _ (by rw [h.c]; rfl), by rw [World.frozen?_setCell]; exact h.f, h.B.setCell (p := ⟨w.heap.size + 1, 0, none⟩) (by simp) _, by have := h.z; simp [World.setCell]; omega⟩
theorem URs.far {w W : World} {most : Int} {b : Bool} (h : URs w most b W) (p : Addr) (hp : w.heap.size + 2 ≤ p.block) (u : Value) : URs w most b (W.setCell p u) :=
  ⟨(World.cell?_setCell_other _ _ _ _ (fun e => by have := congrArg Addr.block e; simp at this; omega)).trans h.m, (World.cell?_setCell_other _ _ _ _ (fun e => by have := congrArg Addr.block e; simp at this; omega)).trans h.c,
    by rw [World.frozen?_setCell]; exact h.f, h.B.setCell (p := p) (by omega) _, by have := h.z; simp [World.setCell]; omega⟩
set_option maxRecDepth 100000 in
set_option maxHeartbeats 4000000 in
theorem UtfReads_long (s : ByteArray) (at_ most : Int) (w : World) (hs : s.size ≤ 140737488351232) (c1 : (s.size : Int) > 300) :
    Calls Try.prog 4 #[.string s, .int .i64 at_, .int .i64 most] w fun e w' => e = .returned (.bool true) ∧ Below w.heap.size w w' := by
  refine (callsIn_wide (n := 4)).1 ?_
  refine callsIn_of_wp_marks Try.func4 rfl trivial ?_ rfl
  simp only [Try.ntmps4, List.size_toArray, List.length_cons, List.length_nil, Nat.reduceAdd, Nat.reduceSub, Array.replicate_succ, Array.replicate_zero, List.push_toArray, List.append_toArray, List.nil_append, List.cons_append]
  have c1' : decide ((s.size : Int) > 300) = true := decide_eq_true c1
  have hU0 := URs.start w most 3 4
  gi_wp2_with (refine ⟨trivial, ?_⟩; gi_at_call 9; refine (lives_in _ _).mono ?_; rintro e w1 ⟨rfl, hb⟩; have hU := hU0.step hb; have c6 := hU.c; have f6 := hU.f)
  have hU2 := hU.set true
  have c6' := hU2.c
  refine ⟨.bool true, ?_, rfl, hU2.B⟩
  simp [results, Try.f4, go_sem, c6']
theorem keeps_below {W W1 : World} (h : Below W.heap.size W W1) : KeepsOthers W W1 :=
  ⟨h.size, fun k o hk _ => by have hlt := (Array.getElem?_eq_some_iff.1 hk).1; rw [h.block k hlt]; exact hk⟩
theorem pre_last {xs pre : List (Int × Int)} {x y : Int × Int} (hy : xs[pre.length]? = some y) (h : pre ++ [x] <+: xs) : x = y := by
  obtain ⟨t, ht⟩ := h
  subst ht
  simpa using hy
theorem func_nil (W : World) (b : Value) : (binOp BinOp.eql 30 (.func (.func 28) #[] #[b]) .nilFunc).run Try.prog W = .ok (.bool false) W := by kernel_rfl
set_option maxRecDepth 100000 in
set_option maxHeartbeats 8000000 in
theorem UtfReads_main (s : ByteArray) (at_ most : Int) (w : World) (hs : s.size ≤ 140737488351232) (c1 : ¬ (s.size : Int) > 300) (v n : Int) (kN kR kV kW kA kB : Nat) (vb : Bool) (xs : List (Int × Int)) (en : Int)
    (hN : Aside0 (utf_Next.f kN s at_ = some (v, n, decide (0 < n)))) (hR : Aside0 (sealringref03_Next.f kR s at_ = some (v, n))) (hv : wrap64 v = v) (HLX : Aside0 (xs.length ≤ 300)) (hxs : Aside0 (∀ z ∈ xs, wrap64 z.2 = z.2)) (hV : Aside0 (utf_Valid.f kV s = some vb)) (hW : Aside0 (sealringref03_Valid.f kW s = some vb))
    (hA : Aside0 (sealringref03_All.f kA s = some (xs.map (·.2), xs.map (·.1), en))) (hB : Aside0 (utf_All.l0 kB s 0 = some (xs, en))) :
    Calls Try.prog 4 #[.string s, .int .i64 at_, .int .i64 most] w fun e w' => e = .returned (.bool true) ∧ Below w.heap.size w w' := by
  refine (callsIn_wide (n := 4)).1 ?_
  refine callsIn_of_wp_marks Try.func4 rfl trivial ?_ rfl
  simp only [Try.ntmps4, List.size_toArray, List.length_cons, List.length_nil, Nat.reduceAdd, Nat.reduceSub, Array.replicate_succ, Array.replicate_zero, List.push_toArray, List.append_toArray, List.nil_append, List.cons_append]
  have c1' : decide ((s.size : Int) > 300) = false := decide_eq_false c1
  have hU0 := URs.start w most 3 4
  have hfn := func_nil
  gi_wp2_with (first
    | (refine ⟨trivial, ?_⟩; gi_at_call 15; refine (callsIn_wide.2 (utf_Next.calls kN s at_ v n (decide (0 < n)) _ hN.out)).mono ?_; rintro e w1 ⟨rfl, hb1⟩; have hU1 := hU0.step hb1)
    | (refine ⟨trivial, ?_⟩; gi_at_call 16; refine (callsIn_wide.2 (sealringref03_Next.calls kR s at_ v n _ hR.out)).mono ?_; rintro e w2 ⟨rfl, hb2⟩; have hU2 := hU1.step hb2)
    | (refine ⟨trivial, ?_⟩; gi_at_call 14; refine (callsIn_wide.2 (utf_Valid.calls kV s vb _ hV.out)).mono ?_; rintro e w3 ⟨rfl, hb3⟩; have hU3 := hU2.step hb3)
    | (refine ⟨trivial, ?_⟩; gi_at_call 17; refine (callsIn_wide.2 (sealringref03_Valid.calls kW s vb _ hW.out)).mono ?_; rintro e w4 ⟨rfl, hb4⟩; have hU4 := hU3.step hb4)
    | (refine ⟨trivial, ?_⟩; gi_at_call 18; refine (callsIn_wide.2 (sealringref03_All.calls kA s (xs.map (·.2)) (xs.map (·.1)) en _ hA.out)).mono ?_; rintro e w5 ⟨v0, v1, rfl, ho0, ho1, hb5⟩; have hU5 := hU4.step hb5; obtain ⟨A0, k0, rfl⟩ := Kd.R_slice ho0; obtain ⟨A1, k1, rfl⟩ := Kd.R_slice ho1)
    | (refine ⟨trivial, ?_⟩; gi_at_call 13; refine (utf_All_in _ _ _).mono ?_; rintro e w6 ⟨rfl, hw6⟩))
  have hL0 : (xs.map (·.2)).length = xs.length := List.length_map _
  have hL1 : (xs.map (·.1)).length = xs.length := List.length_map _
  rw [hL0] at ho0
  rw [hL1] at ho1
  have l1 := boxv w5 (.slice A0 xs.length k0) 38
  have l2 := boxv (w5.alloc (.cells #[.slice A0 xs.length k0] 38)) (.slice A1 xs.length k1) 39
  have l3 := boxv ((w5.alloc (.cells #[.slice A0 xs.length k0] 38)).alloc (.cells #[.slice A1 xs.length k1] 39)) (.string s) 9
  have l4 := boxv (((w5.alloc (.cells #[.slice A0 xs.length k0] 38)).alloc (.cells #[.slice A1 xs.length k1] 39)).alloc (.cells #[.string s] 9)) (.int .i64 0) 3
  simp only [World.size_alloc] at l2 l3 l4
  have hBW : Below w5.heap.size w5 ((((w5.alloc (.cells #[.slice A0 xs.length k0] 38)).alloc (.cells #[.slice A1 xs.length k1] 39)).alloc (.cells #[.string s] 9)).alloc (.cells #[.int .i64 0] 3)) :=
    ((((Below.refl _ w5).alloc (Nat.le_refl _) _).alloc (by simp) _).alloc (by simp; omega) _).alloc (by simp; omega) _
  refine wpIn_rangeFunc_ownF rfl (by omega) (gf := 28) (lb := #[.pointer (some ⟨w5.heap.size + 1 + 1, 0, none⟩)]) rfl trivial (enters_of Try.func28 (by kernel_rfl) rfl)
    (utf_All_stops _ (by omega) (w5.heap.size + 1 + 1) kB s xs en hB.out _ (by simp) (boxv_cell _ l3.1)) keepBox_t (keepBox_b _) (Below.refl _ _) (fun _ => rfl)
    (fun pre W => (W.cell? ⟨w5.heap.size, 0, none⟩ = some (.slice A0 xs.length k0) ∧ W.cell? ⟨w5.heap.size + 1, 0, none⟩ = some (.slice A1 xs.length k1) ∧ W.cell? ⟨w5.heap.size + 1 + 1 + 1, 0, none⟩ = some (.int .i64 (pre.length : Int)) ∧ W.frozen? ⟨w5.heap.size + 1 + 1 + 1, 0, none⟩ = false) ∧ Below w5.heap.size w5 W)
    (fun c pre W => (c = .ret ∧ (pre <+: xs → W.cell? ⟨w.heap.size + 1, 0, none⟩ = some (.bool true))) ∧ Below w.heap.size w W)
    (OwnFrom.and (Own.from (fun s A B row hs hg hr => ⟨cell_kept hs.1 hg hr, cell_kept hs.2.1 hg hr, cell_kept hs.2.2.1 hg hr, (frozen_kept hs.2.2.1 hg hr).trans hs.2.2.2⟩) _) (ownFrom_below (Nat.le_refl _) (by simp; omega)))
    (fun c => OwnFrom.and (Own.from (fun s A B row hs hg hr => ⟨hs.1, fun h => cell_kept (hs.2 h) hg hr⟩) _) (ownFrom_below (Nat.le_refl _) (by have := hU5.z; simp; omega)))
    ⟨⟨boxv_cell _ (boxv_cell _ (boxv_cell _ l1.1)), boxv_cell _ (boxv_cell _ l2.1), l4.1, l4.2⟩, hBW⟩
    ?a1 ?assign ?body ?done ?stop
  case assign =>
    intro l x W K hK
    gi_wp2
    exact hK
  case body =>
    rintro l pre x W ⟨⟨hc0, hc1, hc3, hf3⟩, hB5⟩ hlen
    have hU := hU5.step hB5
    have cm := hU.m
    have c6 := hU.c
    have f6 := hU.f
    have q0 : 0 ≤ (pre.length : Int) := by omega
    have q1 : (pre.length : Int) < (xs.length : Int) := by omega
    obtain ⟨d0, e0, x0⟩ := Kd.at_int (Kd.C_below (Kd.R_reads' ho0).2.2 hB5) (pre.length : Int) q0 (by rw [hL0]; exact q1)
    obtain ⟨d1, e1, x1⟩ := Kd.at_int (Kd.C_below (Kd.R_reads' ho1).2.2 hB5) (pre.length : Int) q0 (by rw [hL1]; exact q1)
    subst e0 e1
    have r0 : rd (xs.map (·.2)) (pre.length : Int) = xs[pre.length].2 := by
      unfold rd
      rw [show ((pre.length : Int)).toNat = pre.length from rfl, List.getD_eq_getElem?_getD, List.getElem?_map, List.getElem?_eq_getElem hlen]
      rfl
    have r1 : rd (xs.map (·.1)) (pre.length : Int) = xs[pre.length].1 := by
      unfold rd
      rw [show ((pre.length : Int)).toNat = pre.length from rfl, List.getD_eq_getElem?_getD, List.getElem?_map, List.getElem?_eq_getElem hlen]
      rfl
    rw [r0, show ((pre.length : Int)).toNat = pre.length from rfl] at x0
    rw [r1, show ((pre.length : Int)).toNat = pre.length from rfl] at x1
    generalize hy : xs[pre.length] = y at x0 x1
    have hUi := hU.far ⟨w5.heap.size + 1 + 1 + 1, 0, none⟩ (by have := hU5.z; show w.heap.size + 2 ≤ w5.heap.size + 1 + 1 + 1; omega) (.int .i64 (wrap64 ((pre.length : Int) + 1)))
    have cmi := hUi.m
    have c6i := hUi.c
    have f6i := hUi.f
    have hy' := Aside0.mk (show xs[pre.length]? = some y by rw [List.getElem?_eq_getElem hlen, hy])
    have hlen' := Aside0.mk hlen
    have HU := Aside0.mk hU
    have HUI := Aside0.mk hUi
    have HB5 := Aside0.mk hB5
    have HZ := Aside0.mk hU5.z
    clear hU hUi hU0 hU1 hU2 hU3 hU4 l1 l2 l3 l4 hBW ho0 ho1 hb1 hb2 hb3 hb4 hb5 hfn r0 r1 hlen hB5 hy
    gi_wp2_with fail
    · refine ⟨KeepsOthers.setCell _ _ _, ⟨⟨rfl, fun hp => ?_⟩, HU.out.B.setCell (p := ⟨w.heap.size + 1, 0, none⟩) (by simp) _⟩⟩
      exfalso
      have h9 := hlen'.out
      have h1 := pre_last hy'.out hp
      subst h1
      rename_i hh
      rcases hh with hh | hh
      · omega
      · simp at hh
    · refine ⟨trivial, ?_⟩
      gi_at_call 9
      refine (CallsIn.inRound l (lives_in _ _)).mono ?_
      rintro e w7 ⟨rfl, hb7⟩
      have hU7 := HUI.out.step hb7
      have c67 := hU7.c
      have f67 := hU7.f
      have HB7 := Aside0.mk hb7
      have HU7 := Aside0.mk hU7
      clear hb7 hU7
      gi_wp2_with fail
      refine ⟨((KeepsOthers.setCell _ _ _).trans (keeps_below HB7.out)).trans (KeepsOthers.setCell _ _ _), ⟨⟨rfl, fun _ => ?_⟩, HU7.out.B.setCell (p := ⟨w.heap.size + 1, 0, none⟩) (by simp) _⟩⟩
      exact World.cell?_setCell_same' _ _ _ (by rw [c67]; rfl)
    · have h9 := HZ.out
      refine ⟨KeepsOthers.setCell _ _ _, fun h => ?_, ⟨⟨?_, ?_, ?_, ?_⟩, HB5.out.setCell (p := ⟨w5.heap.size + 1 + 1 + 1, 0, none⟩) (by simp; omega) _⟩⟩
      · rw [World.cell?_setCell_other _ _ _ _ (fun e => by have := congrArg Addr.block e; simp at this)]
        exact h
      · rw [World.cell?_setCell_other _ _ _ _ (fun e => by have := congrArg Addr.block e; simp at this; omega)]
        exact hc0
      · rw [World.cell?_setCell_other _ _ _ _ (fun e => by have := congrArg Addr.block e; simp at this; omega)]
        exact hc1
      · rw [World.cell?_setCell_same' _ _ _ (by rw [hc3]; rfl), w64s _ (by have := hlen'.out; have := HLX.out; omega)]
        simp
      · rw [World.frozen?_setCell]
        exact hf3
    · refine ⟨KeepsOthers.setCell _ _ _, ⟨⟨rfl, fun hp => ?_⟩, HU.out.B.setCell (p := ⟨w.heap.size + 1, 0, none⟩) (by simp) _⟩⟩
      exfalso
      have h1 := pre_last hy'.out hp
      have h2 := hxs.out y (List.mem_of_getElem? hy'.out)
      rw [← h1] at h2
      rename_i hh
      exact hh (h2.trans (by rw [h1]))
  case done =>
    rintro D ys W hD rfl ⟨⟨hc0, hc1, hc3, hf3⟩, hB5⟩ hK
    have hU := hU5.step hB5
    have c6 := hU.c
    have f6 := hU.f
    clear hU0 hU1 hU2 hU3 hU4 l1 l2 l3 l4 hBW ho0 ho1 hb1 hb2 hb3 hb4 hb5 hfn
    have HK := Aside0.mk hK
    have HU := Aside0.mk hU
    have HB5 := Aside0.mk hB5
    have HD := Aside0.mk hD
    clear hK hU hB5 hD
    gi_wp2_with fail
    refine ⟨trivial, ?_⟩
    gi_at_call 9
    refine (lives_in _ _).mono ?_
    rintro e w7 ⟨rfl, hb7⟩
    have hU7 := HU.out.step hb7
    have c67 := hU7.c
    have f67 := hU7.f
    have HU7 := Aside0.mk hU7
    have HB7 := Aside0.mk hb7
    clear hb7 hU7
    gi_wp2_with fail
    have hz := HD.out
    have hz5 := hU5.z
    have hD7 := HB7.out.size
    have hDl := (Array.getElem?_eq_some_iff.1 HK.out).1
    have hU8 := HU7.out.set true
    have hK8 : (w7.setCell ⟨w.heap.size + 1, 0, none⟩ (.bool true)).heap[D]? = some (.deferred (some [])) :=
      (Below.heap_setCell _ _ _ _ (by simp at hz ⊢; omega)).trans ((HB7.out.block D hDl).trans HK.out)
    refine ⟨by simp, .inl ⟨_, _, rfl, run_takeDeferred hK8, ?_⟩⟩
    have hc5 := cell_kept hU8.c (grownBy_putObj' _ D (.deferred none)) (fun r e => by cases e; exact ⟨_, hK8, rfl⟩)
    refine ⟨.bool true, ?_, rfl, hU8.B.trans (belowK_b (w := w) (Nat.le_refl _) _ D _ _ (by simp at hz; omega) hK8 rfl rfl)⟩
    simp [results, Try.f4, go_sem, hc5]
  case stop =>
    rintro D c pre W hD hpre ⟨⟨rfl, hres⟩, hBx⟩ hK
    have hr := hres hpre
    gi_wp2
    refine ⟨by simp, .inl ⟨_, _, rfl, run_takeDeferred hK, ?_⟩⟩
    have hc5 := cell_kept hr (grownBy_putObj' _ D (.deferred none)) (fun r e => by cases e; exact ⟨_, hK, rfl⟩)
    refine ⟨.bool true, ?_, rfl, hBx.trans (belowK_b (w := w) (Nat.le_refl _) W D _ _ (by have := hU5.z; simp at hD; omega) hK rfl rfl)⟩
    simp [results, Try.f4, go_sem, hc5]
end Go.Proofs.Ytijfbnkohnlmaaa.X
