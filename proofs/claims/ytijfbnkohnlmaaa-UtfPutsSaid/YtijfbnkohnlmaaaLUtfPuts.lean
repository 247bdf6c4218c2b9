/- UtfPuts answers true at every list of numbers. -/
import Derived.Test.YtijfbnkohnlmaaaSUtfPut
import Derived.Test.YtijfbnkohnlmaaaLUtfReads
import Derived.Test.YtijfbnkohnlmaaaX2
import Derived.Test.YtijfbnkohnlmaaaX5
import Derived.Test.YtijfbnkohnlmaaaX6
import Derived.Test.YtijfbnkohnlmaaaX7
namespace Go.Proofs.Ytijfbnkohnlmaaa.X
open Go.RowKit Go.Shelf Go.Proofs.YtijfbnkohnlmaaaW.PrintWords
attribute [local go_sem] Oper.semAt_some
set_option linter.unusedVariables false
set_option linter.unusedSimpArgs false
/-- The law's own two boxes: what came in, and what is answered. -/
structure UPt (w : World) (v : Value) (b : Bool) (W : World) : Prop where
  m : W.cell? ⟨w.heap.size, 0, none⟩ = some v
  c : W.cell? ⟨w.heap.size + 1, 0, none⟩ = some (.bool b)
  f : W.frozen? ⟨w.heap.size + 1, 0, none⟩ = false
  B : Below w.heap.size w W
  z : w.heap.size + 2 ≤ W.heap.size
theorem UPt.start (w : World) (v : Value) (t u : TypeId) : UPt w v false ((w.alloc (.cells #[v] t)).alloc (.cells #[.bool false] u)) := by
  have h1 := boxv w v t
  have h2 := boxv (w.alloc (.cells #[v] t)) (.bool false) u
  rw [World.size_alloc] at h2
  exact ⟨boxv_cell _ h1.1, h2.1, h2.2, ((Below.refl _ w).alloc (Nat.le_refl _) _).alloc (by simp) _, by simp⟩
theorem UPt.step {w W w1 : World} {v : Value} {b : Bool} (h : UPt w v b W) (hb : Below W.heap.size W w1) : UPt w v b w1 :=
  ⟨(hb.cell (p := ⟨w.heap.size, 0, none⟩) (by have := h.z; show w.heap.size < _; omega)).trans h.m, (hb.cell (p := ⟨w.heap.size + 1, 0, none⟩) (by have := h.z; show w.heap.size + 1 < _; omega)).trans h.c,
    (hb.frozen (p := ⟨w.heap.size + 1, 0, none⟩) (by have := h.z; show w.heap.size + 1 < _; omega)).trans h.f, h.B.trans (hb.mono (by have := h.z; omega)), by have := h.z; have := hb.size; omega⟩
theorem UPt.set {w W : World} {v : Value} {b : Bool} (h : UPt w v b W) (b' : Bool) : UPt w v b' (W.setCell ⟨w.heap.size + 1, 0, none⟩ (.bool b')) :=
  ⟨(World.cell?_setCell_other _ _ _ _ (fun e => by have := congrArg Addr.block e; simp at this)).trans h.m, World.cell?_setCell_same' _ _ _ (by rw [h.c]; rfl), by rw [World.frozen?_setCell]; exact h.f, h.B.setCell (p := ⟨w.heap.size + 1, 0, none⟩) (by simp) _, by have := h.z; simp [World.setCell]; omega⟩
theorem UPt.far {w W : World} {v : Value} {b : Bool} (h : UPt w v b W) (p : Addr) (hp : w.heap.size + 2 ≤ p.block) (u : Value) : UPt w v b (W.setCell p u) :=
  ⟨(World.cell?_setCell_other _ _ _ _ (fun e => by have := congrArg Addr.block e; simp at this; omega)).trans h.m, (World.cell?_setCell_other _ _ _ _ (fun e => by have := congrArg Addr.block e; simp at this; omega)).trans h.c,
    by rw [World.frozen?_setCell]; exact h.f, h.B.setCell (p := p) (by omega) _, by have := h.z; simp [World.setCell]; omega⟩
set_option maxRecDepth 100000 in
set_option maxHeartbeats 4000000 in
theorem UtfPuts_long (A0 : Option Addr) (c0 : Nat) (l : List Int) (w : World) (hl : l.length * 4 ≤ 140737488351232) (c1 : (l.length : Int) > 100) :
    Calls Try.prog 3 #[.slice A0 l.length c0] w fun e w' => e = .returned (.bool true) ∧ Below w.heap.size w w' := by
  refine (callsIn_wide (n := 4)).1 ?_
  refine callsIn_of_wp_marks Try.func3 rfl trivial ?_ rfl
  simp only [Try.ntmps3, List.size_toArray, List.length_cons, List.length_nil, Nat.reduceAdd, Nat.reduceSub, Array.replicate_succ, Array.replicate_zero, List.push_toArray, List.append_toArray, List.nil_append, List.cons_append]
  have c1' : decide ((l.length : Int) > 100) = true := decide_eq_true c1
  have hU0 := UPt.start w (.slice A0 l.length c0) 22 4
  gi_wp2_with (refine ⟨trivial, ?_⟩; gi_at_call 9; refine (lives_in _ _).mono ?_; rintro e w1 ⟨rfl, hb⟩; have hU := hU0.step hb; have c6 := hU.c; have f6 := hU.f)
  have hU2 := hU.set true
  have c6' := hU2.c
  refine ⟨.bool true, ?_, rfl, hU2.B⟩
  simp [results, Try.f3, go_sem, c6']
/-- What the law's own loop keeps. -/
def PutsRel (A0 : Option Addr) (c0 : Nat) (l : List Int) (w : World) (p5 p23 : Value) (W : World) : Prop :=
  ∃ i : Nat, i ≤ l.length ∧ p23 = .int .i64 (i : Int) ∧ p5 = .string (strOfNums (putL (l.take i))) ∧ Aside0 ((l.take i).all isv = true) ∧ UPt w (.slice A0 l.length c0) false W
theorem take_snoc' (l : List Int) (i : Nat) (h : i < l.length) : l.take (i + 1) = l.take i ++ [l[i]] := by rw [List.take_succ_eq_append_getElem h]
theorem rd_get (l : List Int) (i : Nat) (h : i < l.length) : rd l (i : Int) = l[i] := by
  unfold rd
  rw [show ((i : Int)).toNat = i from rfl, List.getD_eq_getElem?_getD, List.getElem?_eq_getElem h]
  rfl
theorem son_append (a b : List Int) : strOfNums a ++ strOfNums b = strOfNums (a ++ b) := by
  apply ByteArray.ext
  simp [strOfNums, ByteArray.data_append]
set_option maxRecDepth 100000 in
set_option maxHeartbeats 8000000 in
theorem UtfPuts_bad (A0 : Option Addr) (c0 : Nat) (l : List Int) (w : World) (hr : Kd.C (Kd.int .i32) w A0 l.length l) (hc : l.length ≤ c0) (hl : l.length * 4 ≤ 140737488351232) (hw : ∀ x ∈ l, wrap64 x = x) (c1 : ¬ (l.length : Int) > 100) (kP : Nat) (hP : Aside0 (utf_Put.f kP l = some (⟨#[]⟩, 2))) (hb : Aside0 (¬ l.all isv = true)) :
    Calls Try.prog 3 #[.slice A0 l.length c0] w fun e w' => e = .returned (.bool true) ∧ Below w.heap.size w w' := by
  refine (callsIn_wide (n := 4)).1 ?_
  refine callsIn_of_wp_marks Try.func3 rfl trivial ?_ rfl
  simp only [Try.ntmps3, List.size_toArray, List.length_cons, List.length_nil, Nat.reduceAdd, Nat.reduceSub, Array.replicate_succ, Array.replicate_zero, List.push_toArray, List.append_toArray, List.nil_append, List.cons_append]
  have c1' : decide ((l.length : Int) > 100) = false := decide_eq_false c1
  have hU0 := UPt.start w (.slice A0 l.length c0) 22 4
  have HR := Aside0.mk hr
  have HC := Aside0.mk hc
  have HW := Aside0.mk hw
  clear hr hc hw
  gi_wp2_with (refine ⟨trivial, ?_⟩; gi_at_call 10; refine (callsIn_wide.2 (utf_Put.calls kP A0 c0 l _ _ _ (Kd.C_below HR.out hU0.B) HC.out hP.out)).mono ?_; rintro e w1 ⟨rfl, hb1⟩; have hU1 := hU0.step hb1; have cm1 := hU1.m)
  gi_loopw [5, 23] (fun p5 p23 wr => PutsRel A0 c0 l w p5 p23 wr) (fun _ p23 _ => l.length - (intOf p23).toNat)
  case atStart => exact ⟨0, Nat.zero_le _, rfl, rfl, ⟨rfl⟩, hU1⟩
  case round =>
    obtain ⟨W, rfl⟩ : ∃ W : World, W = wr := ⟨_, rfl⟩
    obtain ⟨i, hi, rfl, rfl, hall, hU⟩ := hrel
    by_cases hlt : i < l.length
    · have q0 : 0 ≤ (i : Int) := by omega
      have q1 : (i : Int) < (l.length : Int) := by omega
      obtain ⟨d0, e0, x0⟩ := Kd.at_int (Kd.C_below HR.out hU.B) (i : Int) q0 q1
      subst e0
      have hg := rd_get l i hlt
      rw [show ((i : Int)).toNat = i from rfl] at x0
      generalize hv : rd l (i : Int) = v at x0
      have hwv : wrap64 v = v := by rw [← hv, hg]; exact HW.out _ (List.getElem_mem _)
      have HV := Aside0.mk (hv.symm.trans hg)
      clear hv hg
      have hII := Is_f v
      have HI := Aside0.mk hII
      clear hII
      have c6 := hU.c
      have f6 := hU.f
      have hz1 : (strOfNums (putL (l.take i))).size ≤ 400 := by
        rw [son_size]
        have := putL_len (l.take i)
        rw [List.length_take] at this
        omega
      have hz2 : (strOfNums (formL v)).size ≤ 4 := by rw [son_size]; exact (formL_le v).2
      have HU := Aside0.mk hU
      clear hU hU1 hU0 hb1 cm1
      cases hvv : isv v with
      | true =>
        have hr := isv_iff.1 hvv
        have HF := Aside0.mk (Form_f v hr.1 (by omega))
        have HVV := Aside0.mk hvv
        clear hvv
        rw [HVV.out] at HI
        gi_wp2_with (first
          | (refine ⟨trivial, ?_⟩; gi_at_call 11; refine (callsIn_wide.2 (sealringref03_Is.calls v true _ HI.out)).mono ?_; rintro e w2 ⟨rfl, m, rfl⟩)
          | (refine ⟨trivial, ?_⟩; gi_at_call 12; refine (callsIn_wide.2 (sealringref03_Form.calls v _ _ HF.out)).mono ?_; rintro e w3 ⟨rfl, hb3⟩))
        go_roundw
        case rel =>
          refine ⟨i + 1, by omega, by go_num, ?_, ⟨?_⟩, HU.out.step (below_then (pw_below_drewN (Below.refl _ W) m) (Nat.le_refl _) hb3)⟩
          · rw [take_snoc' l i hlt, ← HV.out, son_append]
            simp [putL]
          · rw [take_snoc' l i hlt, List.all_append, hall.out, ← HV.out]
            simp [HVV.out]
        case measure => simp [intOf]; omega
      | false =>
        have HVV := Aside0.mk hvv
        clear hvv
        rw [HVV.out] at HI
        gi_wp2_with (first
          | (refine ⟨trivial, ?_⟩; gi_at_call 11; refine (callsIn_wide.2 (sealringref03_Is.calls v false _ HI.out)).mono ?_; rintro e w2 ⟨rfl, m, rfl⟩)
          | (refine ⟨trivial, ?_⟩; gi_at_call 9; refine (lives_in _ _).mono ?_; rintro e w3 ⟨rfl, hb3⟩; have hU3 := HU.out.step (below_then (pw_below_drewN (Below.refl _ W) m) (Nat.le_refl _) hb3); have c63 := hU3.c; have f63 := hU3.f))
        have hU4 := hU3.set true
        have c64 := hU4.c
        refine ⟨.bool true, ?_, rfl, hU4.B⟩
        simp [results, Try.f3, go_sem, c64]
    · exfalso
      have h := hall.out
      rw [List.take_of_length_le (by omega)] at h
      exact hb.out h
/-- The law's loop over what was put. -/
theorem pre_lastN {xs pre : List (Int × Int)} {x y : Int × Int} (hy : xs[pre.length]? = some y) (h : pre ++ [x] <+: xs) : x = y := pre_last hy h
set_option maxRecDepth 100000 in
set_option maxHeartbeats 16000000 in
theorem UtfPuts_good (A0 : Option Addr) (c0 : Nat) (l : List Int) (w : World) (hr : Kd.C (Kd.int .i32) w A0 l.length l) (hc : l.length ≤ c0) (hl : l.length * 4 ≤ 140737488351232) (hw : ∀ x ∈ l, wrap64 x = x) (c1 : ¬ (l.length : Int) > 100) (kP kV kB : Nat) (s : ByteArray) (hs : Aside0 (s = strOfNums (putL l))) (xs : List (Int × Int)) (en : Int)
    (hP : Aside0 (utf_Put.f kP l = some (s, 0))) (hb : Aside0 (l.all isv = true)) (hB : Aside0 (utf_All.l0 kB s 0 = some (xs, en))) (hxs : Aside0 (xs.map (·.2) = l)) (hV : Aside0 (utf_Valid.f kV s = some true)) :
    Calls Try.prog 3 #[.slice A0 l.length c0] w fun e w' => e = .returned (.bool true) ∧ Below w.heap.size w w' := by
  refine (callsIn_wide (n := 4)).1 ?_
  refine callsIn_of_wp_marks Try.func3 rfl trivial ?_ rfl
  simp only [Try.ntmps3, List.size_toArray, List.length_cons, List.length_nil, Nat.reduceAdd, Nat.reduceSub, Array.replicate_succ, Array.replicate_zero, List.push_toArray, List.append_toArray, List.nil_append, List.cons_append]
  have c1' : decide ((l.length : Int) > 100) = false := decide_eq_false c1
  have hU0 := UPt.start w (.slice A0 l.length c0) 22 4
  have HR := Aside0.mk hr
  have HC := Aside0.mk hc
  have HW := Aside0.mk hw
  clear hr hc hw
  gi_wp2_with (refine ⟨trivial, ?_⟩; gi_at_call 10; refine (callsIn_wide.2 (utf_Put.calls kP A0 c0 l _ _ _ (Kd.C_below HR.out hU0.B) HC.out hP.out)).mono ?_; rintro e w1 ⟨rfl, hb1⟩; have hU1 := hU0.step hb1; have cm1 := hU1.m)
  gi_loopw [5, 23] (fun p5 p23 wr => PutsRel A0 c0 l w p5 p23 wr) (fun _ p23 _ => l.length - (intOf p23).toNat)
  case atStart => exact ⟨0, Nat.zero_le _, rfl, rfl, ⟨rfl⟩, hU1⟩
  case round =>
    obtain ⟨W, rfl⟩ : ∃ W : World, W = wr := ⟨_, rfl⟩
    obtain ⟨i, hi, rfl, rfl, hall, hU⟩ := hrel
    by_cases hlt : i < l.length
    · have q0 : 0 ≤ (i : Int) := by omega
      have q1 : (i : Int) < (l.length : Int) := by omega
      obtain ⟨d0, e0, x0⟩ := Kd.at_int (Kd.C_below HR.out hU.B) (i : Int) q0 q1
      subst e0
      have hg := rd_get l i hlt
      rw [show ((i : Int)).toNat = i from rfl] at x0
      generalize hv : rd l (i : Int) = v at x0
      have hwv : wrap64 v = v := by rw [← hv, hg]; exact HW.out _ (List.getElem_mem _)
      have HV := Aside0.mk (hv.symm.trans hg)
      clear hv hg
      have hvv : isv v = true := by rw [HV.out]; exact List.all_eq_true.1 hb.out _ (List.getElem_mem _)
      have HI := Aside0.mk (show sealringref03_Is.f v = some true by rw [Is_f v, hvv])
      have c6 := hU.c
      have f6 := hU.f
      have hz1 : (strOfNums (putL (l.take i))).size ≤ 400 := by
        rw [son_size]
        have := putL_len (l.take i)
        rw [List.length_take] at this
        omega
      have hz2 : (strOfNums (formL v)).size ≤ 4 := by rw [son_size]; exact (formL_le v).2
      have HU := Aside0.mk hU
      clear hU hU1 hU0 hb1 cm1
      have hr := isv_iff.1 hvv
      have HF := Aside0.mk (Form_f v hr.1 (by omega))
      have HVV := Aside0.mk hvv
      clear hvv
      gi_wp2_with (first
          | (refine ⟨trivial, ?_⟩; gi_at_call 11; refine (callsIn_wide.2 (sealringref03_Is.calls v true _ HI.out)).mono ?_; rintro e w2 ⟨rfl, m, rfl⟩)
          | (refine ⟨trivial, ?_⟩; gi_at_call 12; refine (callsIn_wide.2 (sealringref03_Form.calls v _ _ HF.out)).mono ?_; rintro e w3 ⟨rfl, hb3⟩))
      go_roundw
      case rel =>
          refine ⟨i + 1, by omega, by go_num, ?_, ⟨?_⟩, HU.out.step (below_then (pw_below_drewN (Below.refl _ W) m) (Nat.le_refl _) hb3)⟩
          · rw [take_snoc' l i hlt, ← HV.out, son_append]
            simp [putL]
          · rw [take_snoc' l i hlt, List.all_append, hall.out, ← HV.out]
            simp [HVV.out]
      case measure => simp [intOf]; omega
    · have hle : l.length ≤ i := by omega
      rw [List.take_of_length_le hle]
      clear hall hU1 hU0 hb1 cm1
      rw [← hs.out]
      have hfn := func_nil
      have c6 := hU.c
      have f6 := hU.f
      gi_wp2_with (refine ⟨trivial, ?_⟩; gi_at_call 13; refine (utf_All_in _ _ _).mono ?_; rintro e w6 ⟨rfl, rfl⟩)
      have l1 := boxv W (.string s) 9
      have l2 := boxv (W.alloc (.cells #[.string s] 9)) (.int .i64 0) 3
      simp only [World.size_alloc] at l2
      have hBW : Below W.heap.size W ((W.alloc (.cells #[.string s] 9)).alloc (.cells #[.int .i64 0] 3)) := ((Below.refl _ W).alloc (Nat.le_refl _) _).alloc (by simp) _
      have hLX : xs.length = l.length := by rw [← hxs.out, List.length_map]
      have HLX := Aside0.mk hLX
      clear hLX
      refine wpIn_rangeFunc_ownF rfl (by omega) (gf := 28) (lb := #[.pointer (some ⟨W.heap.size, 0, none⟩)]) rfl trivial (enters_of Try.func28 (by kernel_rfl) rfl)
        (utf_All_stops _ (by omega) W.heap.size kB s xs en hB.out _ (by simp only [World.size_alloc]; omega) (boxv_cell _ l1.1)) keepBox_t (keepBox_b _) (Below.refl _ _) (fun _ => rfl)
        (fun pre V => (V.cell? ⟨W.heap.size + 1, 0, none⟩ = some (.int .i64 (pre.length : Int)) ∧ V.frozen? ⟨W.heap.size + 1, 0, none⟩ = false) ∧ Below W.heap.size W V)
        (fun c pre V => (¬ pre <+: xs) ∧ Below w.heap.size w V)
        (OwnFrom.and (Own.from (fun s A B row hs hg hr => ⟨cell_kept hs.1 hg hr, (frozen_kept hs.1 hg hr).trans hs.2⟩) _) (ownFrom_below (Nat.le_refl _) (by simp; omega)))
        (fun c => OwnFrom.and (Own.from (fun s A B row hs hg hr => hs) _) (ownFrom_below (Nat.le_refl _) (by have := hU.z; simp; omega)))
        ⟨⟨l2.1, l2.2⟩, hBW⟩
        ?a1 ?assign ?body ?done ?stop
      case assign =>
        intro l x W K hK
        gi_wp2
        exact hK
      case body =>
        rintro ll pre x V ⟨⟨hc3, hf3⟩, hB5⟩ hlen
        have hUV := hU.step hB5
        have cm := hUV.m
        have c6 := hUV.c
        have f6 := hUV.f
        have hlen2 : pre.length < l.length := by have := HLX.out; omega
        have q0 : 0 ≤ (pre.length : Int) := by omega
        have q1 : (pre.length : Int) < (l.length : Int) := by omega
        obtain ⟨d0, e0, x0⟩ := Kd.at_int (Kd.C_below HR.out hUV.B) (pre.length : Int) q0 q1
        subst e0
        have hg := rd_get l pre.length hlen2
        rw [show ((pre.length : Int)).toNat = pre.length from rfl] at x0
        generalize hv : rd l (pre.length : Int) = v at x0
        have HV : Aside0 (∃ y, xs[pre.length]? = some y ∧ y.2 = v) := ⟨⟨xs[pre.length], List.getElem?_eq_getElem hlen, by
          rw [← hv, hg]
          have h9 := hxs.out
          subst h9
          simp⟩⟩
        have HUV := Aside0.mk hUV
        have HB5 := Aside0.mk hB5
        have HZ := Aside0.mk hU.z
        have hlen' := Aside0.mk hlen
        clear hv hg hU hBW hfn l1 l2 hlen hB5 hUV hle
        gi_wp2_with fail
        · refine ⟨KeepsOthers.setCell _ _ _, ⟨fun hp => ?_, HUV.out.B.setCell (p := ⟨w.heap.size + 1, 0, none⟩) (by simp) _⟩⟩
          obtain ⟨y, hy, hyv⟩ := HV.out
          have h1 := pre_last hy hp
          subst h1
          rename_i hh
          simp [hyv] at hh
          omega
        · have h9 := HZ.out
          refine ⟨KeepsOthers.setCell _ _ _, fun h => ?_, ⟨⟨?_, ?_⟩, HB5.out.setCell (p := ⟨W.heap.size + 1, 0, none⟩) (by simp) _⟩⟩
          · rw [World.cell?_setCell_other _ _ _ _ (fun e => by have := congrArg Addr.block e; simp at this)]
            exact h
          · rw [World.cell?_setCell_same' _ _ _ (by rw [hc3]; rfl)]
            simp
          · rw [World.frozen?_setCell]
            exact hf3
      case done =>
        rintro D ys V hD rfl ⟨⟨hc3, hf3⟩, hB5⟩ hK
        have hUV := hU.step hB5
        have cm := hUV.m
        have c6 := hUV.c
        have f6 := hUV.f
        clear hBW hfn l1 l2
        have HK := Aside0.mk hK
        have HUV := Aside0.mk hUV
        have HD := Aside0.mk hD
        have HZ := Aside0.mk hU.z
        clear hK hUV hB5 hD hU
        rw [HLX.out] at hc3
        gi_wp2_with (first
          | (refine ⟨trivial, ?_⟩; gi_at_call 14; refine (callsIn_wide.2 (utf_Valid.calls kV s true _ hV.out)).mono ?_; rintro e w3 ⟨rfl, hb3⟩; have hU3 := HUV.out.step hb3)
          | (refine ⟨trivial, ?_⟩; gi_at_call 9; refine (lives_in _ _).mono ?_; rintro e w4 ⟨rfl, hb4⟩; have hU4 := hU3.step hb4; have c64 := hU4.c; have f64 := hU4.f))
        have hU5 := hU4.set true
        have hDl := (Array.getElem?_eq_some_iff.1 HK.out).1
        have hz := HD.out
        have hK3 := (hb3.block D hDl).trans HK.out
        have hK4 := (hb4.block D (by have := hb3.size; omega)).trans hK3
        have hK8 : (w4.setCell ⟨w.heap.size + 1, 0, none⟩ (.bool true)).heap[D]? = some (.deferred (some [])) :=
          (Below.heap_setCell _ _ _ _ (by have := HZ.out; simp at hz ⊢; omega)).trans hK4
        refine ⟨by simp, .inl ⟨_, _, rfl, run_takeDeferred hK8, ?_⟩⟩
        have hc5 := cell_kept hU5.c (grownBy_putObj' _ D (.deferred none)) (fun r e => by cases e; exact ⟨_, hK8, rfl⟩)
        refine ⟨.bool true, ?_, rfl, hU5.B.trans (belowK_b (w := w) (Nat.le_refl _) _ D _ _ (by have := HZ.out; simp at hz; omega) hK8 rfl rfl)⟩
        simp [results, Try.f3, go_sem, hc5]
      case stop =>
        rintro D c pre W _ hp ⟨h, _⟩ _
        exact (h hp).elim
end Go.Proofs.Ytijfbnkohnlmaaa.X
