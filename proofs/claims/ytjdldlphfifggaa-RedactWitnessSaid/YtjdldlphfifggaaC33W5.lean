import Derived.Test.YtjdldlphfifggaaC33W4
section
namespace Go.Proofs.Ytjdldlphfifggaa.X
open Go.RowKit Go.Proofs.YtjdldlphfifggaaW.PrintWords Go.Proofs.YtjdldlphfifggaaW.PrintLast Go.Proofs.YtjdldlphfifggaaW.PrintMore
set_option linter.unusedVariables false
set_option linter.unusedSimpArgs false
abbrev tyB : ByteArray := ⟨#[116, 121, 112, 101]⟩
abbrev conB : ByteArray := ⟨#[99, 111, 110, 116, 101, 110, 116]⟩
abbrev zN : Nd := ⟨0, 0, ⟨#[]⟩, [], []⟩
def textN (n : Nd) (key : ByteArray) : ByteArray × Bool := match get n.f0 n.f3 n.f4 key with | some x => if x.f0 = 4 then (x.f2, true) else (⟨#[]⟩, false) | none => (⟨#[]⟩, false)
def redOut (v : Int) (n out : Nd) : Option Nd :=
  match get n.f0 n.f3 n.f4 conB with
  | none => some out
  | some x => if x.f0 = 6 then (contentN v (textN n tyB).1 x).bind (putN out conB) else withoutN out [conB]
def redactN (v : Int) (n : Nd) : Option (Nd × Int) :=
  (version_Of.f v).bind fun t => if t.2.2.2.2.2.2.2 = 0 then (if chk n 1 = 0 then (if n.f0 = 6 then (keep_Top.f v).bind fun top => (onlyN n top.1).bind fun out => (redOut v n out).map fun r => (r, 0) else some (zN, 16)) else some (zN, chk n 1)) else some (zN, t.2.2.2.2.2.2.2)
theorem Text_ev (n : Nd) (key : ByteArray) (hL : n.f4.length ≤ 1466015503700) : Ev (fun k => field_Text.f k n.f0 n.f1 n.f2 n.f3 n.f4 key) (textN n key) := by
  unfold field_Text.f
  refine Ev.bind (f := fun k bt => _) (Get_ev n.f0 n.f1 n.f2 n.f3 n.f4 key hL) ?_
  unfold textN
  cases get n.f0 n.f3 n.f4 key with
  | none => exact evNeg (by simp [tup]) (Ev.now _)
  | some x =>
    refine evPos rfl ?_
    by_cases h : x.f0 = 4
    · exact evTo (if_pos h) (evPos h (Ev.now _))
    · exact evTo (if_neg h) (evNeg h (Ev.now _))
theorem ndNil (Q : Nat → Prop) (W : World) : NdV Q W (.agg #[.int .i64 0, .int .i64 0, .string ⟨#[]⟩, .slice none 0 0, .slice none 0 0]) zN := ⟨none, 0, none, 0, rfl, Kd.V_nil _ _ _ _ _, Kd.V_nil _ _ _ _ _⟩
set_option maxHeartbeats 12800000 in
set_option maxRecDepth 100000 in
theorem redact_nd (Q : Nat → Prop) (vv : Int) (n r : Nd) (err : Int) (v : Value) (w : World) (hn : NdV Q w v n) (hsm : Sm n) (hll : n.f4.length ≤ 1466015503700) (hf : redactN vv n = some (r, err)) (hQ : ∀ k, w.heap.size ≤ k → Q k) :
    Calls Try.prog 52 #[.int .i64 vv, v] w fun e w' => ∃ v', e = .returned (.tuple #[v', .int .i64 err]) ∧ NdV Q w' v' r ∧ Below w.heap.size w w' := by
  obtain ⟨A3, c3, A4, c4, rfl, h3, h4⟩ := hn
  have HN0 : Aside0 (NdV Q w (.agg #[.int .i64 n.f0, .int .i64 n.f1, .string n.f2, .slice A3 n.f3.length c3, .slice A4 n.f4.length c4]) n) := ⟨⟨A3, c3, A4, c4, rfl, h3, h4⟩⟩
  have HC3 := Aside0.mk (Kd.V_reads' h3).2
  have HC4 := Aside0.mk (Kd.V_reads' h4).2
  have HQ := Aside0.mk hQ
  clear h3 h4 hQ
  unfold redactN at hf
  obtain ⟨⟨t0, t1, t2, t3, t4, t5, t6, t7⟩, hv, hf⟩ := Option.bind_eq_some_iff.1 hf
  simp only at hf
  have HV := Aside0.mk hv
  clear hv
  have hB0 : Bxs w ((w.alloc (.cells #[.int .i64 n.f0, .int .i64 n.f1, .string n.f2, .slice A3 n.f3.length c3, .slice A4 n.f4.length c4] nodeT)).alloc (.cells #[.int .i64 0, .int .i64 0, .string ⟨#[]⟩, .slice none 0 0, .slice none 0 0] nodeT)) [(#[.int .i64 n.f0, .int .i64 n.f1, .string n.f2, .slice A3 n.f3.length c3, .slice A4 n.f4.length c4], nodeT), (#[.int .i64 0, .int .i64 0, .string ⟨#[]⟩, .slice none 0 0, .slice none 0 0], nodeT)] := (((Bx0.start w).alloc _ _).alloc _ _).x
  have HB0 := Aside0.mk hB0
  clear hB0
  by_cases h7 : t7 = 0
  · rw [if_pos h7] at hf
    subst h7
    obtain ⟨kc, hkc⟩ := (check_ev _ n 1 (Nat.le_refl _) hsm (by decide)).rounds
    have HKC : Aside0 (tree_Check.f kc n.f0 n.f1 n.f2 n.f3 n.f4 = some (chk n 1)) := ⟨by unfold tree_Check.f; rw [hkc]; rfl⟩
    clear hkc
    by_cases hc0 : chk n 1 = 0
    · rw [if_pos hc0] at hf
      rw [hc0] at HKC
      clear hc0
      by_cases h6 : n.f0 = 6
      · rw [if_pos h6] at hf
        have c6b : (n.f0 == 6) = true := by simpa using h6
        have c6c : (n.f0 != 6) = false := by simpa using h6
        clear h6
        obtain ⟨⟨top, e2⟩, htop, hf⟩ := Option.bind_eq_some_iff.1 hf
        obtain ⟨out, hout, hf⟩ := Option.bind_eq_some_iff.1 hf
        obtain ⟨r', hr', hf⟩ := Option.map_eq_some_iff.1 hf
        simp only [Prod.mk.injEq] at hf
        obtain ⟨rfl, rfl⟩ := hf
        simp only at hout
        have HTOP := Aside0.mk htop
        have HOUT := Aside0.mk hout
        clear htop hout
        obtain ⟨kt, hkt⟩ := (Text_ev n tyB hll).rounds
        have HKT := Aside0.mk hkt
        clear hkt
        have HGET := fun (W : World) (hW : Below w.heap.size w W) => get_nd (Q := Q) (HN0.out.below hW) conB hll (fun k hk => HQ.out k (Nat.le_trans hW.size hk))
        have HGETA := Aside0.mk HGET
        clear HGET
        generalize hkind : textN n tyB = kd at HKT
        obtain ⟨kind, kyes⟩ := kd
        unfold redOut at hr'
        rw [hkind] at hr'
        simp only at hr'
        clear hkind
        cases hx : get n.f0 n.f3 n.f4 conB with
        | none =>
          rw [hx] at HGETA hr'
          injection hr' with hr'
          subst hr'
          clear hx
          obtain ⟨Q', hQ'⟩ : ∃ Q' : Nat → Prop, Q' = fun k => (Q k ∧ k < w.heap.size) ∨ w.heap.size + 2 ≤ k := ⟨_, rfl⟩
          have HN1 : Aside0 (NdV Q' w (.agg #[.int .i64 n.f0, .int .i64 n.f1, .string n.f2, .slice A3 n.f3.length c3, .slice A4 n.f4.length c4]) n) := ⟨HN0.out.bound.mono (fun k hk => by rw [hQ']; exact .inl hk)⟩
          have HQ1 : Aside0 (∀ k, w.heap.size + 2 ≤ k → Q' k) := ⟨fun k hk => by rw [hQ']; exact .inr hk⟩
          have HQ2 : Aside0 (∀ k, Q' k → k ≠ w.heap.size + 1) := ⟨fun k hk e => by rw [hQ'] at hk; omega⟩
          have HQ3 : Aside0 (∀ k, Q' k → Q k) := ⟨fun k hk => by rw [hQ'] at hk; exact hk.elim (fun h => h.1) (fun h => HQ.out k (by omega))⟩
          clear hQ'
          go_enter Try.func52, Try.ntmps52
          go_wp2_with fail
          generalize (w.alloc (.cells #[.int .i64 n.f0, .int .i64 n.f1, .string n.f2, .slice A3 n.f3.length c3, .slice A4 n.f4.length c4] nodeT)).alloc (.cells #[.int .i64 0, .int .i64 0, .string ⟨#[]⟩, .slice none 0 0, .slice none 0 0] nodeT) = W0 at HB0 ⊢
          go_wp2_with (first
            | (go_at_call 97; (with_reducible refine (version_Of.calls vv t0 t1 t2 t3 t4 t5 t6 0 W0 HV.out).mono ?_); rintro e w1 ⟨rfl, hb1⟩; have HB1 := Aside0.mk (HB0.out.step hb1); clear hb1; have x0 := HB1.out.cell 0 0 rfl; have x1 := HB1.out.cell 0 1 rfl; have x2 := HB1.out.cell 0 2 rfl; have x3 := HB1.out.cell 0 3 rfl; have x4 := HB1.out.cell 0 4 rfl; simp only [List.getElem?_toArray, List.getElem?_cons_zero, List.getElem?_cons_succ, Nat.add_zero] at x0 x1 x2 x3 x4; have hl1 := HB1.out.lt 0 rfl; have hl1' := HB1.out.lt 1 rfl; rw [Nat.add_zero] at hl1)
            | (go_at_call 18; have hbA := below_alloc (Below.refl w1.heap.size w1) (.cells #[.bool t0, .bool t1, .bool t2, .bool t3, .bool t4, .bool t5, .bool t6] 120); have hBA := (HB1.out.step hbA).B; (with_reducible refine (tree_Check.calls kc n.f0 n.f1 n.f2 A3 c3 n.f3 A4 c4 n.f4 0 _ (Kd.C_below HC3.out.2 hBA) HC3.out.1 (Kd.C_below HC4.out.2 hBA) HC4.out.1 HKC.out).mono ?_); rintro e w2 ⟨rfl, hb2⟩; clear x0 x1 x2 x3 x4; have HB2 := Aside0.mk ((HB1.out.step hbA).step hb2); clear hbA hBA hb2; have x0 := HB2.out.cell 0 0 rfl; have x1 := HB2.out.cell 0 1 rfl; have x2 := HB2.out.cell 0 2 rfl; have x3 := HB2.out.cell 0 3 rfl; have x4 := HB2.out.cell 0 4 rfl; simp only [List.getElem?_toArray, List.getElem?_cons_zero, List.getElem?_cons_succ, Nat.add_zero] at x0 x1 x2 x3 x4; have hl2 := HB2.out.lt 0 rfl; have hl2' := HB2.out.lt 1 rfl; rw [Nat.add_zero] at hl2)
            | (go_at_call 98; (with_reducible refine (keep_Top.calls vv top e2 w2 HTOP.out).mono ?_); rintro e w3 ⟨vt, rfl, hRt, hb3⟩; clear x0 x1 x2 x3 x4; obtain ⟨At, ct, rfl⟩ := Kd.R_slice hRt; have HRT := Aside0.mk (Kd.R_reads' hRt).2; have HB3 := Aside0.mk (HB2.out.step hb3); clear hRt hb3; have x0 := HB3.out.cell 0 0 rfl; have x1 := HB3.out.cell 0 1 rfl; have x2 := HB3.out.cell 0 2 rfl; have x3 := HB3.out.cell 0 3 rfl; have x4 := HB3.out.cell 0 4 rfl; simp only [List.getElem?_toArray, List.getElem?_cons_zero, List.getElem?_cons_succ, Nat.add_zero] at x0 x1 x2 x3 x4; have hl3 := HB3.out.lt 0 rfl; have hl3' := HB3.out.lt 1 rfl; rw [Nat.add_zero] at hl3)
            | (go_at_call 99; (with_reducible refine (only_nd (Q := Q') (HN1.out.below HB3.out.B) HRT.out.2 HRT.out.1 HOUT.out (fun k hk => HQ1.out k (by omega))).mono ?_); rintro e w4 ⟨vo, rfl, hvo, hb4⟩; clear x0 x1 x2 x3 x4; obtain ⟨O3, o3, O4, o4, rfl, q3, q4⟩ := hvo; have HO : Aside0 (NdV Q' w4 (.agg #[.int .i64 out.f0, .int .i64 out.f1, .string out.f2, .slice O3 out.f3.length o3, .slice O4 out.f4.length o4]) out) := ⟨⟨O3, o3, O4, o4, rfl, q3, q4⟩⟩; have HB4 := Aside0.mk (HB3.out.step hb4); clear hb4 q3 q4; have x0 := HB4.out.cell 0 0 rfl; have x1 := HB4.out.cell 0 1 rfl; have x2 := HB4.out.cell 0 2 rfl; have x3 := HB4.out.cell 0 3 rfl; have x4 := HB4.out.cell 0 4 rfl; simp only [List.getElem?_toArray, List.getElem?_cons_zero, List.getElem?_cons_succ, Nat.add_zero] at x0 x1 x2 x3 x4; have hl4 := HB4.out.lt 0 rfl; have hl4' := HB4.out.lt 1 rfl; rw [Nat.add_zero] at hl4)
            | (go_at_call 90; have hbA := below_alloc (Below.refl w4.heap.size w4) (.cells #[.int .i64 out.f0, .int .i64 out.f1, .string out.f2, .slice O3 out.f3.length o3, .slice O4 out.f4.length o4] nodeT); have hBA := (HB4.out.step hbA).B; (with_reducible refine (field_Text.calls kt n.f0 n.f1 n.f2 A3 c3 n.f3 A4 c4 n.f4 tyB kind kyes _ (Kd.C_below HC3.out.2 hBA) HC3.out.1 (Kd.C_below HC4.out.2 hBA) HC4.out.1 HKT.out).mono ?_); rintro e w5 ⟨rfl, hb5⟩; clear x0 x1 x2 x3 x4; have HB5 := Aside0.mk ((HB4.out.step hbA).step hb5); have HO5 := Aside0.mk (HO.out.below (below_then hbA hbA.size hb5)); have B11 := Aside0.mk (blk_below (blk_new w4 (.cells #[.int .i64 out.f0, .int .i64 out.f1, .string out.f2, .slice O3 out.f3.length o3, .slice O4 out.f4.length o4] nodeT)) hb5); clear hbA hBA hb5; have x0 := HB5.out.cell 0 0 rfl; have x1 := HB5.out.cell 0 1 rfl; have x2 := HB5.out.cell 0 2 rfl; have x3 := HB5.out.cell 0 3 rfl; have x4 := HB5.out.cell 0 4 rfl; simp only [List.getElem?_toArray, List.getElem?_cons_zero, List.getElem?_cons_succ, Nat.add_zero] at x0 x1 x2 x3 x4; have hl5 := HB5.out.lt 0 rfl; have hl5' := HB5.out.lt 1 rfl; have hl5o := blk_lt B11.out; rw [Nat.add_zero] at hl5)
            | (go_at_call 30; (with_reducible refine (HGETA.out w5 HB5.out.B).mono ?_); rintro e w6 ⟨v6, rfl, ⟨X3, x3', X4, x4', rfl, q3, q4⟩, hb6⟩; clear x0 x1 x2 x3 x4; have HX : Aside0 (NdV Q w6 (.agg #[.int .i64 0, .int .i64 0, .string ⟨#[]⟩, .slice X3 0 x3', .slice X4 0 x4']) zN) := ⟨⟨X3, x3', X4, x4', rfl, q3, q4⟩⟩; have HB6 := Aside0.mk (HB5.out.step hb6); have HO6 := Aside0.mk (HO5.out.below hb6); have B6 := Aside0.mk (blk_below B11.out hb6); clear hb6 q3 q4; have hl6 := HB6.out.lt 1 rfl; have hl6o := blk_lt B6.out; have o0 := blk_cell B6.out 0; have o1 := blk_cell B6.out 1; have o2 := blk_cell B6.out 2; have o3' := blk_cell B6.out 3; have o4' := blk_cell B6.out 4; simp only [List.getElem?_toArray, List.getElem?_cons_zero, List.getElem?_cons_succ] at o0 o1 o2 o3' o4')
            | ((with_reducible refine gate_store (t := nodeT) (p := 4) rfl ?_); refine store5 rfl rfl rfl rfl rfl ((HB6.out.step (below_alloc (Below.refl w6.heap.size w6) (.cells #[.int .i64 0, .int .i64 0, .string ⟨#[]⟩, .slice X3 0 x3', .slice X4 0 x4'] nodeT))).at_ 1 _ rfl) rfl (by kernel_rfl) (by rfl) (fun W9 hb9 hg9 => ?_); have HB9 := Aside0.mk hb9; have HG9 := Aside0.mk hg9; have z0 := blk_cell hb9 0; have z1 := blk_cell hb9 1; have z2 := blk_cell hb9 2; have z3 := blk_cell hb9 3; have z4 := blk_cell hb9 4; simp only [List.getElem?_toArray, List.getElem?_cons_zero, List.getElem?_cons_succ] at z0 z1 z2 z3 z4; clear hb9 hg9))
          have hBL := (HB6.out.step (below_alloc (Below.refl w6.heap.size w6) (.cells #[.int .i64 0, .int .i64 0, .string ⟨#[]⟩, .slice X3 0 x3', .slice X4 0 x4'] nodeT)))
          refine bodyPost_ret (v := .tuple #[.agg #[.int .i64 out.f0, .int .i64 out.f1, .string out.f2, .slice O3 out.f3.length o3, .slice O4 out.f4.length o4], .int .i64 0]) (by simp [results, Try.results52, go_sem, z0, z1, z2, z3, z4]) rfl ⟨_, rfl, ((HO6.out.below (below_alloc (Below.refl w6.heap.size w6) (.cells #[.int .i64 0, .int .i64 0, .string ⟨#[]⟩, .slice X3 0 x3', .slice X4 0 x4'] nodeT))).grown HG9.out HQ2.out).mono HQ3.out, hBL.B.grown HG9.out hBL.B.size (fun k hk => by injection hk with hk; omega)⟩
        | some x =>
          rw [hx] at HGETA hr'
          simp only at hr'
          have HGX := Aside0.mk hx
          clear hx HGETA
          by_cases hx6 : x.f0 = 6
          · rw [if_pos hx6] at hr'
            have d6b : (x.f0 == 6) = true := by simpa using hx6
            have d6c : (x.f0 != 6) = false := by simpa using hx6
            clear hx6
            obtain ⟨y, hy, hr'⟩ := Option.bind_eq_some_iff.1 hr'
            have HY := Aside0.mk hy
            have HRR := Aside0.mk hr'
            clear hy hr'
            obtain ⟨Q', hQ'⟩ : ∃ Q' : Nat → Prop, Q' = fun k => (Q k ∧ k < w.heap.size) ∨ w.heap.size + 2 ≤ k := ⟨_, rfl⟩
            have HN1 : Aside0 (NdV Q' w (.agg #[.int .i64 n.f0, .int .i64 n.f1, .string n.f2, .slice A3 n.f3.length c3, .slice A4 n.f4.length c4]) n) := ⟨HN0.out.bound.mono (fun k hk => by rw [hQ']; exact .inl hk)⟩
            have HQ1 : Aside0 (∀ k, w.heap.size + 2 ≤ k → Q' k) := ⟨fun k hk => by rw [hQ']; exact .inr hk⟩
            have HQ2 : Aside0 (∀ k, Q' k → k ≠ w.heap.size + 1) := ⟨fun k hk e => by rw [hQ'] at hk; omega⟩
            have HQ3 : Aside0 (∀ k, Q' k → Q k) := ⟨fun k hk => by rw [hQ'] at hk; exact hk.elim (fun h => h.1) (fun h => HQ.out k (by omega))⟩
            clear hQ'
            go_enter Try.func52, Try.ntmps52
            go_wp2_with fail
            generalize (w.alloc (.cells #[.int .i64 n.f0, .int .i64 n.f1, .string n.f2, .slice A3 n.f3.length c3, .slice A4 n.f4.length c4] nodeT)).alloc (.cells #[.int .i64 0, .int .i64 0, .string ⟨#[]⟩, .slice none 0 0, .slice none 0 0] nodeT) = W0 at HB0 ⊢
            go_wp2_with (first
              | (go_at_call 97; (with_reducible refine (version_Of.calls vv t0 t1 t2 t3 t4 t5 t6 0 W0 HV.out).mono ?_); rintro e w1 ⟨rfl, hb1⟩; have HB1 := Aside0.mk (HB0.out.step hb1); clear hb1; have x0 := HB1.out.cell 0 0 rfl; have x1 := HB1.out.cell 0 1 rfl; have x2 := HB1.out.cell 0 2 rfl; have x3 := HB1.out.cell 0 3 rfl; have x4 := HB1.out.cell 0 4 rfl; simp only [List.getElem?_toArray, List.getElem?_cons_zero, List.getElem?_cons_succ, Nat.add_zero] at x0 x1 x2 x3 x4; have hl1 := HB1.out.lt 0 rfl; have hl1' := HB1.out.lt 1 rfl; rw [Nat.add_zero] at hl1)
              | (go_at_call 18; have hbA := below_alloc (Below.refl w1.heap.size w1) (.cells #[.bool t0, .bool t1, .bool t2, .bool t3, .bool t4, .bool t5, .bool t6] 120); have hBA := (HB1.out.step hbA).B; (with_reducible refine (tree_Check.calls kc n.f0 n.f1 n.f2 A3 c3 n.f3 A4 c4 n.f4 0 _ (Kd.C_below HC3.out.2 hBA) HC3.out.1 (Kd.C_below HC4.out.2 hBA) HC4.out.1 HKC.out).mono ?_); rintro e w2 ⟨rfl, hb2⟩; clear x0 x1 x2 x3 x4; have HB2 := Aside0.mk ((HB1.out.step hbA).step hb2); clear hbA hBA hb2; have x0 := HB2.out.cell 0 0 rfl; have x1 := HB2.out.cell 0 1 rfl; have x2 := HB2.out.cell 0 2 rfl; have x3 := HB2.out.cell 0 3 rfl; have x4 := HB2.out.cell 0 4 rfl; simp only [List.getElem?_toArray, List.getElem?_cons_zero, List.getElem?_cons_succ, Nat.add_zero] at x0 x1 x2 x3 x4; have hl2 := HB2.out.lt 0 rfl; have hl2' := HB2.out.lt 1 rfl; rw [Nat.add_zero] at hl2)
              | (go_at_call 98; (with_reducible refine (keep_Top.calls vv top e2 w2 HTOP.out).mono ?_); rintro e w3 ⟨vt, rfl, hRt, hb3⟩; clear x0 x1 x2 x3 x4; obtain ⟨At, ct, rfl⟩ := Kd.R_slice hRt; have HRT := Aside0.mk (Kd.R_reads' hRt).2; have HB3 := Aside0.mk (HB2.out.step hb3); clear hRt hb3; have x0 := HB3.out.cell 0 0 rfl; have x1 := HB3.out.cell 0 1 rfl; have x2 := HB3.out.cell 0 2 rfl; have x3 := HB3.out.cell 0 3 rfl; have x4 := HB3.out.cell 0 4 rfl; simp only [List.getElem?_toArray, List.getElem?_cons_zero, List.getElem?_cons_succ, Nat.add_zero] at x0 x1 x2 x3 x4; have hl3 := HB3.out.lt 0 rfl; have hl3' := HB3.out.lt 1 rfl; rw [Nat.add_zero] at hl3)
              | (go_at_call 99; (with_reducible refine (only_nd (Q := Q') (HN1.out.below HB3.out.B) HRT.out.2 HRT.out.1 HOUT.out (fun k hk => HQ1.out k (by omega))).mono ?_); rintro e w4 ⟨vo, rfl, hvo, hb4⟩; clear x0 x1 x2 x3 x4; obtain ⟨O3, o3, O4, o4, rfl, q3, q4⟩ := hvo; have HO0 : Aside0 (NdV Q' w4 (.agg #[.int .i64 out.f0, .int .i64 out.f1, .string out.f2, .slice O3 out.f3.length o3, .slice O4 out.f4.length o4]) out) := ⟨⟨O3, o3, O4, o4, rfl, q3, q4⟩⟩; have HB4 := Aside0.mk (HB3.out.step hb4); clear hb4 q3 q4; have x0 := HB4.out.cell 0 0 rfl; have x1 := HB4.out.cell 0 1 rfl; have x2 := HB4.out.cell 0 2 rfl; have x3 := HB4.out.cell 0 3 rfl; have x4 := HB4.out.cell 0 4 rfl; simp only [List.getElem?_toArray, List.getElem?_cons_zero, List.getElem?_cons_succ, Nat.add_zero] at x0 x1 x2 x3 x4; obtain ⟨Q2, hQ2⟩ : ∃ Q2 : Nat → Prop, Q2 = fun k => Q' k ∧ k ≠ w4.heap.size := ⟨_, rfl⟩; have HO : Aside0 (NdV Q2 w4 (.agg #[.int .i64 out.f0, .int .i64 out.f1, .string out.f2, .slice O3 out.f3.length o3, .slice O4 out.f4.length o4]) out) := ⟨HO0.out.bound.mono (fun k hk => by rw [hQ2]; exact ⟨hk.1, fun e => by have := hk.2; omega⟩)⟩; have HNQ : Aside0 (NdV Q2 w (.agg #[.int .i64 n.f0, .int .i64 n.f1, .string n.f2, .slice A3 n.f3.length c3, .slice A4 n.f4.length c4]) n) := ⟨HN1.out.bound.mono (fun k hk => by rw [hQ2]; exact ⟨hk.1, fun e => by have := hk.2; have := HB4.out.B.size; omega⟩)⟩; have hl40 := HB4.out.lt 1 rfl; have HP1 : Aside0 (∀ k, w4.heap.size + 1 ≤ k → Q2 k) := ⟨fun k hk => by rw [hQ2]; exact ⟨HQ1.out k (by omega), fun e => by omega⟩⟩; have HP2 : Aside0 (∀ k, Q2 k → k ≠ w4.heap.size) := ⟨fun k hk => by rw [hQ2] at hk; exact hk.2⟩; have HP3 : Aside0 (∀ k, Q2 k → Q' k) := ⟨fun k hk => by rw [hQ2] at hk; exact hk.1⟩; clear hQ2 HO0; have hl4 := HB4.out.lt 0 rfl; have hl4' := HB4.out.lt 1 rfl; rw [Nat.add_zero] at hl4)
              | (go_at_call 90; have hbA := below_alloc (Below.refl w4.heap.size w4) (.cells #[.int .i64 out.f0, .int .i64 out.f1, .string out.f2, .slice O3 out.f3.length o3, .slice O4 out.f4.length o4] nodeT); have hBA := (HB4.out.step hbA).B; (with_reducible refine (field_Text.calls kt n.f0 n.f1 n.f2 A3 c3 n.f3 A4 c4 n.f4 tyB kind kyes _ (Kd.C_below HC3.out.2 hBA) HC3.out.1 (Kd.C_below HC4.out.2 hBA) HC4.out.1 HKT.out).mono ?_); rintro e w5 ⟨rfl, hb5⟩; clear x0 x1 x2 x3 x4; have HB5 := Aside0.mk ((HB4.out.step hbA).step hb5); have HO5 := Aside0.mk (HO.out.below (below_then hbA hbA.size hb5)); have B11 := Aside0.mk (blk_below (blk_new w4 (.cells #[.int .i64 out.f0, .int .i64 out.f1, .string out.f2, .slice O3 out.f3.length o3, .slice O4 out.f4.length o4] nodeT)) hb5); clear hbA hBA hb5; have x0 := HB5.out.cell 0 0 rfl; have x1 := HB5.out.cell 0 1 rfl; have x2 := HB5.out.cell 0 2 rfl; have x3 := HB5.out.cell 0 3 rfl; have x4 := HB5.out.cell 0 4 rfl; simp only [List.getElem?_toArray, List.getElem?_cons_zero, List.getElem?_cons_succ, Nat.add_zero] at x0 x1 x2 x3 x4; have hl5 := HB5.out.lt 0 rfl; have hl5' := HB5.out.lt 1 rfl; have hl5o := blk_lt B11.out; rw [Nat.add_zero] at hl5)
              | (go_at_call 30; (with_reducible refine (get_nd (Q := Q2) (HNQ.out.below HB5.out.B) conB hll (fun k hk => HP1.out k (by omega))).mono ?_); rw [HGX.out]; rintro e w6 ⟨v6, rfl, ⟨X3, x3', X4, x4', rfl, q3, q4⟩, hb6⟩; clear x0 x1 x2 x3 x4; have HX : Aside0 (NdV Q2 w6 (.agg #[.int .i64 x.f0, .int .i64 x.f1, .string x.f2, .slice X3 x.f3.length x3', .slice X4 x.f4.length x4']) x) := ⟨⟨X3, x3', X4, x4', rfl, q3, q4⟩⟩; have HB6 := Aside0.mk (HB5.out.step hb6); have HO6 := Aside0.mk (HO5.out.below hb6); have B6 := Aside0.mk (blk_below B11.out hb6); clear hb6 q3 q4; have hl6 := HB6.out.lt 1 rfl; have hl6o := blk_lt B6.out; have o0 := blk_cell B6.out 0; have o1 := blk_cell B6.out 1; have o2 := blk_cell B6.out 2; have o3' := blk_cell B6.out 3; have o4' := blk_cell B6.out 4; simp only [List.getElem?_toArray, List.getElem?_cons_zero, List.getElem?_cons_succ] at o0 o1 o2 o3' o4'))
            have hbA : Below w6.heap.size w6 (w6.alloc (.cells #[.int .i64 x.f0, .int .i64 x.f1, .string x.f2, .slice X3 x.f3.length x3', .slice X4 x.f4.length x4'] nodeT)).drew := below_drew (below_alloc (Below.refl _ _) _)
            have hG0 := blk_below B6.out hbA
            have hX0 : (w6.alloc (.cells #[.int .i64 x.f0, .int .i64 x.f1, .string x.f2, .slice X3 x.f3.length x3', .slice X4 x.f4.length x4'] nodeT)).drew.heap[w6.heap.size]? = some (.cells #[.int .i64 x.f0, .int .i64 x.f1, .string x.f2, .slice X3 x.f3.length x3', .slice X4 x.f4.length x4'] nodeT (0, 0)) := blk_new w6 _
            have hXV := HX.out.below hbA
            have hOV := HO6.out.below hbA
            have hBX := HB6.out.step hbA
            have hsz0 := hbA.size
            clear o0 o1 o2 o3' o4'
            refine start_ (n := 7) (S := (fun W' : World => W'.cell? ⟨w4.heap.size, 0, none⟩ = some (.int .i64 out.f0) ∧ W'.cell? ⟨w4.heap.size, 1, none⟩ = some (.int .i64 out.f1) ∧ W'.cell? ⟨w4.heap.size, 2, none⟩ = some (.string out.f2) ∧ W'.cell? ⟨w4.heap.size, 3, none⟩ = some (.slice O3 out.f3.length o3) ∧ W'.cell? ⟨w4.heap.size, 4, none⟩ = some (.slice O4 out.f4.length o4) ∧ W'.cell? ⟨w6.heap.size, 0, none⟩ = some (.int .i64 x.f0) ∧ W'.cell? ⟨w6.heap.size, 1, none⟩ = some (.int .i64 x.f1) ∧ W'.cell? ⟨w6.heap.size, 2, none⟩ = some (.string x.f2) ∧ W'.cell? ⟨w6.heap.size, 3, none⟩ = some (.slice X3 x.f3.length x3') ∧ W'.cell? ⟨w6.heap.size, 4, none⟩ = some (.slice X4 x.f4.length x4'))) (ds := [6]) #[false, false, false, false, false, false, false] (by kernel_rfl) rfl rfl ⟨blk_cell hG0 0, blk_cell hG0 1, blk_cell hG0 2, blk_cell hG0 3, blk_cell hG0 4, blk_cell hX0 0, blk_cell hX0 1, blk_cell hX0 2, blk_cell hX0 3, blk_cell hX0 4⟩ (fun hHeld => ?_)
            generalize (w6.alloc (.cells #[.int .i64 x.f0, .int .i64 x.f1, .string x.f2, .slice X3 x.f3.length x3', .slice X4 x.f4.length x4'] nodeT)).drew = WA at hbA hG0 hX0 hXV hOV hBX hsz0 hHeld ⊢
            refine take_ (i := 0) (N := some 53) (v := ?_) (a' := ?_) #[true, false, false, false, false, false, false] rfl rfl (by kernel_rfl) (fun _ _ _ h => h) (Or.inl ⟨by rfl, ?_⟩) hHeld ?_ ?_
            rotate_left
            · rintro w' ⟨s0, s1, s2, s3, s4, s5, s6, s7, s8, s9⟩
              go_simp
              with_reducible rfl
            rotate_left
            · simp only [Act.put, List.setIfInBounds_toArray, List.set_cons_zero, List.set_cons_succ]
              rfl
            refine take_ (i := 3) (N := some 56) (v := ?_) (a' := ?_) #[true, false, false, true, false, false, false] rfl rfl (by kernel_rfl) (fun _ _ _ h => h) (Or.inl ⟨by rfl, ?_⟩) hHeld ?_ ?_
            rotate_left
            · rintro w' ⟨s0, s1, s2, s3, s4, s5, s6, s7, s8, s9⟩
              go_simp
              with_reducible rfl
            rotate_left
            · simp only [Act.put, List.setIfInBounds_toArray, List.set_cons_zero, List.set_cons_succ]
              rfl
            refine pure_ (i := 1) (N := some 54) (v := ?_) (a' := ?_) #[true, true, false, true, false, false, false] rfl rfl (by kernel_rfl) (fun _ _ _ h => h) (Or.inl ⟨by rfl, ?_⟩) ?_ ?_
            rotate_left
            · intro w'
              go_simp
              with_reducible rfl
            rotate_left
            · simp only [Act.put, List.setIfInBounds_toArray, List.set_cons_zero, List.set_cons_succ]
              rfl
            refine pure_ (i := 2) (N := some 55) (v := ?_) (a' := ?_) #[true, true, true, true, false, false, false] rfl rfl (by kernel_rfl) (fun _ _ _ h => h) (Or.inl ⟨by rfl, ?_⟩) ?_ ?_
            rotate_left
            · intro w'
              go_simp
              with_reducible rfl
            rotate_left
            · simp only [Act.put, List.setIfInBounds_toArray, List.set_cons_zero, List.set_cons_succ]
              rfl
            refine one_ (i := 4) (N := some 57) #[true, true, true, true, true, false, false] rfl rfl (by kernel_rfl) (by decide) (fun K hK => ?_)
            refine goes_ Try.func100 (by kernel_rfl) rfl #[.int .i64 vv, .string kind, .agg #[.int .i64 x.f0, .int .i64 x.f1, .string x.f2, .slice X3 x.f3.length x3', .slice X4 x.f4.length x4']] (by rfl) rfl rfl (by (try simp only [List.map_toArray, List.map_cons, List.map_nil]); first | done | rfl) ?_
            refine (content_nd Q2 vv kind x y _ WA hXV HY.out (fun k hk => HP1.out k (by omega))).mono ?_
            rintro e WB ⟨v57, rfl, hy, hb2⟩
            have hG1 := blk_below hG0 hb2
            have hX1 := blk_below hX0 hb2
            have hsz1 := hb2.size
            have hBY := hBX.step hb2
            refine ⟨_, rfl, ?_⟩
            refine hK.out _ _ ⟨blk_cell hG1 0, blk_cell hG1 1, blk_cell hG1 2, blk_cell hG1 3, blk_cell hG1 4, blk_cell hX1 0, blk_cell hX1 1, blk_cell hX1 2, blk_cell hX1 3, blk_cell hX1 4⟩ (fun hHeld => ?_)
            clear hK K
            refine norm_ (a' := ?_) ?_ ?_
            rotate_left
            · show Act.put _ (some 57) _ = _
              simp only [Act.put, List.setIfInBounds_toArray, List.set_cons_zero, List.set_cons_succ]
              rfl
            refine one_ (i := 5) (N := some 58) #[true, true, true, true, true, true, false] rfl rfl (by kernel_rfl) (by decide) (fun K hK => ?_)
            refine goes_ Try.func32 (by kernel_rfl) rfl #[.agg #[.int .i64 out.f0, .int .i64 out.f1, .string out.f2, .slice O3 out.f3.length o3, .slice O4 out.f4.length o4], .string conB, v57] (by rfl) rfl rfl (by (try simp only [List.map_toArray, List.map_cons, List.map_nil]); first | done | rfl) ?_
            refine (put_nd (Q := Q2) (hOV.below hb2) hy HRR.out (fun k hk => HP1.out k (by omega))).mono ?_
            rintro e WC ⟨v58, rfl, hv, hb3⟩
            have hG2 := blk_below hG1 hb3
            have hX2 := blk_below hX1 hb3
            have hBZ := hBY.step hb3
            refine ⟨_, rfl, ?_⟩
            refine hK.out _ _ ⟨blk_cell hG2 0, blk_cell hG2 1, blk_cell hG2 2, blk_cell hG2 3, blk_cell hG2 4, blk_cell hX2 0, blk_cell hX2 1, blk_cell hX2 2, blk_cell hX2 3, blk_cell hX2 4⟩ (fun hHeld => ?_)
            clear hK K
            refine norm_ (a' := ?_) ?_ ?_
            rotate_left
            · show Act.put _ (some 58) _ = _
              simp only [Act.put, List.setIfInBounds_toArray, List.set_cons_zero, List.set_cons_succ]
              rfl
            obtain ⟨R3, r3, R4, r4, rfl, q3, q4⟩ := hv
            have HR7 : Aside0 (NdV Q2 WC (.agg #[.int .i64 r'.f0, .int .i64 r'.f1, .string r'.f2, .slice R3 r'.f3.length r3, .slice R4 r'.f4.length r4]) r') := ⟨⟨R3, r3, R4, r4, rfl, q3, q4⟩⟩
            clear q3 q4
            refine last_ (i := 6) (N := none) #[true, true, true, true, true, true, true] rfl rfl (by kernel_rfl) (by decide) (fun K hK => ?_)
            refine skip5_ (by rfl) rfl rfl rfl rfl hG2 rfl (by kernel_rfl) (by rfl) (fun W8 hb8 hg8 => ?_)
            refine hK.out _ _ ?_
            clear hK K
            refine done_ (by kernel_rfl) ?_
            have HB8 := Aside0.mk (hBZ.grown hg8 (by show w.heap.size + 2 ≤ _; omega))
            have HR8 := Aside0.mk (HR7.out.grown hg8 HP2.out)
            have o0 := blk_cell hb8 0
            have o1 := blk_cell hb8 1
            have o2 := blk_cell hb8 2
            have o3' := blk_cell hb8 3
            have o4' := blk_cell hb8 4
            simp only [List.getElem?_toArray, List.getElem?_cons_zero, List.getElem?_cons_succ] at o0 o1 o2 o3' o4'
            clear hb8 hg8 hHeld
            go_wp2_with ((with_reducible refine gate_store (t := nodeT) (p := 4) rfl ?_); refine store5 rfl rfl rfl rfl rfl (HB8.out.at_ 1 _ rfl) rfl (by kernel_rfl) (by rfl) (fun W9 hb9 hg9 => ?_); have HB9 := Aside0.mk hb9; have HG9 := Aside0.mk hg9; have z0 := blk_cell hb9 0; have z1 := blk_cell hb9 1; have z2 := blk_cell hb9 2; have z3 := blk_cell hb9 3; have z4 := blk_cell hb9 4; simp only [List.getElem?_toArray, List.getElem?_cons_zero, List.getElem?_cons_succ] at z0 z1 z2 z3 z4; clear hb9 hg9)
            have hBL := HB8.out
            refine bodyPost_ret (v := .tuple #[.agg #[.int .i64 r'.f0, .int .i64 r'.f1, .string r'.f2, .slice R3 r'.f3.length r3, .slice R4 r'.f4.length r4], .int .i64 0]) (by simp [results, Try.results52, go_sem, z0, z1, z2, z3, z4]) rfl ⟨_, rfl, (HR8.out.grown HG9.out (fun k hk => HQ2.out k (HP3.out k hk))).mono (fun k hk => HQ3.out k (HP3.out k hk)), hBL.B.grown HG9.out hBL.B.size (fun k hk => by injection hk with hk; omega)⟩
          · rw [if_neg hx6] at hr'
            have d6b : (x.f0 == 6) = false := by simpa using hx6
            have d6c : (x.f0 != 6) = true := by simpa using hx6
            clear hx6
            have HRR := Aside0.mk hr'
            clear hr'
            obtain ⟨Q', hQ'⟩ : ∃ Q' : Nat → Prop, Q' = fun k => (Q k ∧ k < w.heap.size) ∨ w.heap.size + 2 ≤ k := ⟨_, rfl⟩
            have HN1 : Aside0 (NdV Q' w (.agg #[.int .i64 n.f0, .int .i64 n.f1, .string n.f2, .slice A3 n.f3.length c3, .slice A4 n.f4.length c4]) n) := ⟨HN0.out.bound.mono (fun k hk => by rw [hQ']; exact .inl hk)⟩
            have HQ1 : Aside0 (∀ k, w.heap.size + 2 ≤ k → Q' k) := ⟨fun k hk => by rw [hQ']; exact .inr hk⟩
            have HQ2 : Aside0 (∀ k, Q' k → k ≠ w.heap.size + 1) := ⟨fun k hk e => by rw [hQ'] at hk; omega⟩
            have HQ3 : Aside0 (∀ k, Q' k → Q k) := ⟨fun k hk => by rw [hQ'] at hk; exact hk.elim (fun h => h.1) (fun h => HQ.out k (by omega))⟩
            clear hQ'
            go_enter Try.func52, Try.ntmps52
            go_wp2_with fail
            generalize (w.alloc (.cells #[.int .i64 n.f0, .int .i64 n.f1, .string n.f2, .slice A3 n.f3.length c3, .slice A4 n.f4.length c4] nodeT)).alloc (.cells #[.int .i64 0, .int .i64 0, .string ⟨#[]⟩, .slice none 0 0, .slice none 0 0] nodeT) = W0 at HB0 ⊢
            go_wp2_with (first
              | (go_at_call 97; (with_reducible refine (version_Of.calls vv t0 t1 t2 t3 t4 t5 t6 0 W0 HV.out).mono ?_); rintro e w1 ⟨rfl, hb1⟩; have HB1 := Aside0.mk (HB0.out.step hb1); clear hb1; have x0 := HB1.out.cell 0 0 rfl; have x1 := HB1.out.cell 0 1 rfl; have x2 := HB1.out.cell 0 2 rfl; have x3 := HB1.out.cell 0 3 rfl; have x4 := HB1.out.cell 0 4 rfl; simp only [List.getElem?_toArray, List.getElem?_cons_zero, List.getElem?_cons_succ, Nat.add_zero] at x0 x1 x2 x3 x4; have hl1 := HB1.out.lt 0 rfl; have hl1' := HB1.out.lt 1 rfl; rw [Nat.add_zero] at hl1)
              | (go_at_call 18; have hbA := below_alloc (Below.refl w1.heap.size w1) (.cells #[.bool t0, .bool t1, .bool t2, .bool t3, .bool t4, .bool t5, .bool t6] 120); have hBA := (HB1.out.step hbA).B; (with_reducible refine (tree_Check.calls kc n.f0 n.f1 n.f2 A3 c3 n.f3 A4 c4 n.f4 0 _ (Kd.C_below HC3.out.2 hBA) HC3.out.1 (Kd.C_below HC4.out.2 hBA) HC4.out.1 HKC.out).mono ?_); rintro e w2 ⟨rfl, hb2⟩; clear x0 x1 x2 x3 x4; have HB2 := Aside0.mk ((HB1.out.step hbA).step hb2); clear hbA hBA hb2; have x0 := HB2.out.cell 0 0 rfl; have x1 := HB2.out.cell 0 1 rfl; have x2 := HB2.out.cell 0 2 rfl; have x3 := HB2.out.cell 0 3 rfl; have x4 := HB2.out.cell 0 4 rfl; simp only [List.getElem?_toArray, List.getElem?_cons_zero, List.getElem?_cons_succ, Nat.add_zero] at x0 x1 x2 x3 x4; have hl2 := HB2.out.lt 0 rfl; have hl2' := HB2.out.lt 1 rfl; rw [Nat.add_zero] at hl2)
              | (go_at_call 98; (with_reducible refine (keep_Top.calls vv top e2 w2 HTOP.out).mono ?_); rintro e w3 ⟨vt, rfl, hRt, hb3⟩; clear x0 x1 x2 x3 x4; obtain ⟨At, ct, rfl⟩ := Kd.R_slice hRt; have HRT := Aside0.mk (Kd.R_reads' hRt).2; have HB3 := Aside0.mk (HB2.out.step hb3); clear hRt hb3; have x0 := HB3.out.cell 0 0 rfl; have x1 := HB3.out.cell 0 1 rfl; have x2 := HB3.out.cell 0 2 rfl; have x3 := HB3.out.cell 0 3 rfl; have x4 := HB3.out.cell 0 4 rfl; simp only [List.getElem?_toArray, List.getElem?_cons_zero, List.getElem?_cons_succ, Nat.add_zero] at x0 x1 x2 x3 x4; have hl3 := HB3.out.lt 0 rfl; have hl3' := HB3.out.lt 1 rfl; rw [Nat.add_zero] at hl3)
              | (go_at_call 99; (with_reducible refine (only_nd (Q := Q') (HN1.out.below HB3.out.B) HRT.out.2 HRT.out.1 HOUT.out (fun k hk => HQ1.out k (by omega))).mono ?_); rintro e w4 ⟨vo, rfl, hvo, hb4⟩; clear x0 x1 x2 x3 x4; obtain ⟨O3, o3, O4, o4, rfl, q3, q4⟩ := hvo; have HO0 : Aside0 (NdV Q' w4 (.agg #[.int .i64 out.f0, .int .i64 out.f1, .string out.f2, .slice O3 out.f3.length o3, .slice O4 out.f4.length o4]) out) := ⟨⟨O3, o3, O4, o4, rfl, q3, q4⟩⟩; have HB4 := Aside0.mk (HB3.out.step hb4); clear hb4 q3 q4; have x0 := HB4.out.cell 0 0 rfl; have x1 := HB4.out.cell 0 1 rfl; have x2 := HB4.out.cell 0 2 rfl; have x3 := HB4.out.cell 0 3 rfl; have x4 := HB4.out.cell 0 4 rfl; simp only [List.getElem?_toArray, List.getElem?_cons_zero, List.getElem?_cons_succ, Nat.add_zero] at x0 x1 x2 x3 x4; obtain ⟨Q2, hQ2⟩ : ∃ Q2 : Nat → Prop, Q2 = fun k => Q' k ∧ k ≠ w4.heap.size := ⟨_, rfl⟩; have HO : Aside0 (NdV Q2 w4 (.agg #[.int .i64 out.f0, .int .i64 out.f1, .string out.f2, .slice O3 out.f3.length o3, .slice O4 out.f4.length o4]) out) := ⟨HO0.out.bound.mono (fun k hk => by rw [hQ2]; exact ⟨hk.1, fun e => by have := hk.2; omega⟩)⟩; have HNQ : Aside0 (NdV Q2 w (.agg #[.int .i64 n.f0, .int .i64 n.f1, .string n.f2, .slice A3 n.f3.length c3, .slice A4 n.f4.length c4]) n) := ⟨HN1.out.bound.mono (fun k hk => by rw [hQ2]; exact ⟨hk.1, fun e => by have := hk.2; have := HB4.out.B.size; omega⟩)⟩; have hl40 := HB4.out.lt 1 rfl; have HP1 : Aside0 (∀ k, w4.heap.size + 1 ≤ k → Q2 k) := ⟨fun k hk => by rw [hQ2]; exact ⟨HQ1.out k (by omega), fun e => by omega⟩⟩; have HP2 : Aside0 (∀ k, Q2 k → k ≠ w4.heap.size) := ⟨fun k hk => by rw [hQ2] at hk; exact hk.2⟩; have HP3 : Aside0 (∀ k, Q2 k → Q' k) := ⟨fun k hk => by rw [hQ2] at hk; exact hk.1⟩; clear hQ2 HO0; have hl4 := HB4.out.lt 0 rfl; have hl4' := HB4.out.lt 1 rfl; rw [Nat.add_zero] at hl4)
              | (go_at_call 90; have hbA := below_alloc (Below.refl w4.heap.size w4) (.cells #[.int .i64 out.f0, .int .i64 out.f1, .string out.f2, .slice O3 out.f3.length o3, .slice O4 out.f4.length o4] nodeT); have hBA := (HB4.out.step hbA).B; (with_reducible refine (field_Text.calls kt n.f0 n.f1 n.f2 A3 c3 n.f3 A4 c4 n.f4 tyB kind kyes _ (Kd.C_below HC3.out.2 hBA) HC3.out.1 (Kd.C_below HC4.out.2 hBA) HC4.out.1 HKT.out).mono ?_); rintro e w5 ⟨rfl, hb5⟩; clear x0 x1 x2 x3 x4; have HB5 := Aside0.mk ((HB4.out.step hbA).step hb5); have HO5 := Aside0.mk (HO.out.below (below_then hbA hbA.size hb5)); have B11 := Aside0.mk (blk_below (blk_new w4 (.cells #[.int .i64 out.f0, .int .i64 out.f1, .string out.f2, .slice O3 out.f3.length o3, .slice O4 out.f4.length o4] nodeT)) hb5); clear hbA hBA hb5; have x0 := HB5.out.cell 0 0 rfl; have x1 := HB5.out.cell 0 1 rfl; have x2 := HB5.out.cell 0 2 rfl; have x3 := HB5.out.cell 0 3 rfl; have x4 := HB5.out.cell 0 4 rfl; simp only [List.getElem?_toArray, List.getElem?_cons_zero, List.getElem?_cons_succ, Nat.add_zero] at x0 x1 x2 x3 x4; have hl5 := HB5.out.lt 0 rfl; have hl5' := HB5.out.lt 1 rfl; have hl5o := blk_lt B11.out; rw [Nat.add_zero] at hl5)
              | (go_at_call 30; (with_reducible refine (get_nd (Q := Q2) (HNQ.out.below HB5.out.B) conB hll (fun k hk => HP1.out k (by omega))).mono ?_); rw [HGX.out]; rintro e w6 ⟨v6, rfl, ⟨X3, x3', X4, x4', rfl, q3, q4⟩, hb6⟩; clear x0 x1 x2 x3 x4; have HX : Aside0 (NdV Q2 w6 (.agg #[.int .i64 x.f0, .int .i64 x.f1, .string x.f2, .slice X3 x.f3.length x3', .slice X4 x.f4.length x4']) x) := ⟨⟨X3, x3', X4, x4', rfl, q3, q4⟩⟩; have HB6 := Aside0.mk (HB5.out.step hb6); have HO6 := Aside0.mk (HO5.out.below hb6); have B6 := Aside0.mk (blk_below B11.out hb6); clear hb6 q3 q4; have hl6 := HB6.out.lt 1 rfl; have hl6o := blk_lt B6.out; have o0 := blk_cell B6.out 0; have o1 := blk_cell B6.out 1; have o2 := blk_cell B6.out 2; have o3' := blk_cell B6.out 3; have o4' := blk_cell B6.out 4; simp only [List.getElem?_toArray, List.getElem?_cons_zero, List.getElem?_cons_succ] at o0 o1 o2 o3' o4')
              | (go_at_call 35; have hbb := below_alloc (below_alloc (Below.refl w6.heap.size w6) (.cells #[.int .i64 x.f0, .int .i64 x.f1, .string x.f2, .slice X3 x.f3.length x3', .slice X4 x.f4.length x4'] nodeT)) (.cells #[.string conB] 9); have hC1 := one_C (w6.alloc (.cells #[.int .i64 x.f0, .int .i64 x.f1, .string x.f2, .slice X3 x.f3.length x3', .slice X4 x.f4.length x4'] nodeT)) conB 9 (w6.heap.size + 1) (size_alloc _ _).symm; (with_reducible refine calls_of_args (args' := #[.agg #[.int .i64 out.f0, .int .i64 out.f1, .string out.f2, .slice O3 out.f3.length o3, .slice O4 out.f4.length o4], .slice (some ⟨w6.heap.size + 1, 0, none⟩) [conB].length 1]) rfl ?_); (with_reducible refine (without_nd (Q := Q2) (HO6.out.below hbb) hC1 (Nat.le_refl 1) HRR.out (fun k hk => HP1.out k (by have := hbb.size; omega))).mono ?_); rintro e w7 ⟨v7, rfl, ⟨R3, r3, R4, r4, rfl, q3, q4⟩, hb7⟩; have HR7 : Aside0 (NdV Q2 w7 (.agg #[.int .i64 r'.f0, .int .i64 r'.f1, .string r'.f2, .slice R3 r'.f3.length r3, .slice R4 r'.f4.length r4]) r') := ⟨⟨R3, r3, R4, r4, rfl, q3, q4⟩⟩; have HB7 := Aside0.mk (HB6.out.step (below_then hbb hbb.size hb7)); have B7 := Aside0.mk (blk_below B6.out (below_then hbb hbb.size hb7)); clear hb7 hbb q3 q4 hC1)
              | ((with_reducible refine gate_store (t := nodeT) (p := 11) rfl ?_); refine store5 rfl rfl rfl rfl rfl B7.out rfl (by kernel_rfl) (by rfl) (fun W8 hb8 hg8 => ?_); clear o0 o1 o2 o3' o4'; have HB8 := Aside0.mk (HB7.out.grown hg8 (by show w.heap.size + 2 ≤ _; omega)); have HR8 := Aside0.mk (HR7.out.grown hg8 HP2.out); have o0 := blk_cell hb8 0; have o1 := blk_cell hb8 1; have o2 := blk_cell hb8 2; have o3' := blk_cell hb8 3; have o4' := blk_cell hb8 4; simp only [List.getElem?_toArray, List.getElem?_cons_zero, List.getElem?_cons_succ] at o0 o1 o2 o3' o4'; clear hb8 hg8)
              | ((with_reducible refine gate_store (t := nodeT) (p := 4) rfl ?_); refine store5 rfl rfl rfl rfl rfl (HB8.out.at_ 1 _ rfl) rfl (by kernel_rfl) (by rfl) (fun W9 hb9 hg9 => ?_); have HB9 := Aside0.mk hb9; have HG9 := Aside0.mk hg9; have z0 := blk_cell hb9 0; have z1 := blk_cell hb9 1; have z2 := blk_cell hb9 2; have z3 := blk_cell hb9 3; have z4 := blk_cell hb9 4; simp only [List.getElem?_toArray, List.getElem?_cons_zero, List.getElem?_cons_succ] at z0 z1 z2 z3 z4; clear hb9 hg9))
            have hBL := HB8.out
            refine bodyPost_ret (v := .tuple #[.agg #[.int .i64 r'.f0, .int .i64 r'.f1, .string r'.f2, .slice R3 r'.f3.length r3, .slice R4 r'.f4.length r4], .int .i64 0]) (by simp [results, Try.results52, go_sem, z0, z1, z2, z3, z4]) rfl ⟨_, rfl, (HR8.out.grown HG9.out (fun k hk => HQ2.out k (HP3.out k hk))).mono (fun k hk => HQ3.out k (HP3.out k hk)), hBL.B.grown HG9.out hBL.B.size (fun k hk => by injection hk with hk; omega)⟩
      · rw [if_neg h6] at hf
        injection hf with hf
        simp only [Prod.mk.injEq] at hf
        obtain ⟨rfl, rfl⟩ := hf
        have c6b : (n.f0 == 6) = false := by simpa using h6
        have c6c : (n.f0 != 6) = true := by simpa using h6
        clear h6
        go_enter Try.func52, Try.ntmps52
        go_wp2_with fail
        generalize (w.alloc (.cells #[.int .i64 n.f0, .int .i64 n.f1, .string n.f2, .slice A3 n.f3.length c3, .slice A4 n.f4.length c4] nodeT)).alloc (.cells #[.int .i64 0, .int .i64 0, .string ⟨#[]⟩, .slice none 0 0, .slice none 0 0] nodeT) = W0 at HB0 ⊢
        go_wp2_with (first
          | (go_at_call 97; (with_reducible refine (version_Of.calls vv t0 t1 t2 t3 t4 t5 t6 0 W0 HV.out).mono ?_); rintro e w1 ⟨rfl, hb1⟩; have HB1 := Aside0.mk (HB0.out.step hb1); clear hb1; have x0 := HB1.out.cell 0 0 rfl; have x1 := HB1.out.cell 0 1 rfl; have x2 := HB1.out.cell 0 2 rfl; have x3 := HB1.out.cell 0 3 rfl; have x4 := HB1.out.cell 0 4 rfl; simp only [List.getElem?_toArray, List.getElem?_cons_zero, List.getElem?_cons_succ, Nat.add_zero] at x0 x1 x2 x3 x4; have hl1 := HB1.out.lt 0 rfl; have hl1' := HB1.out.lt 1 rfl; rw [Nat.add_zero] at hl1)
          | (go_at_call 18; have hbA := below_alloc (Below.refl w1.heap.size w1) (.cells #[.bool t0, .bool t1, .bool t2, .bool t3, .bool t4, .bool t5, .bool t6] 120); have hBA := (HB1.out.step hbA).B; (with_reducible refine (tree_Check.calls kc n.f0 n.f1 n.f2 A3 c3 n.f3 A4 c4 n.f4 0 _ (Kd.C_below HC3.out.2 hBA) HC3.out.1 (Kd.C_below HC4.out.2 hBA) HC4.out.1 HKC.out).mono ?_); rintro e w2 ⟨rfl, hb2⟩; clear x0 x1 x2 x3 x4; have HB2 := Aside0.mk ((HB1.out.step hbA).step hb2); clear hbA hBA hb2; have x0 := HB2.out.cell 0 0 rfl; have x1 := HB2.out.cell 0 1 rfl; have x2 := HB2.out.cell 0 2 rfl; have x3 := HB2.out.cell 0 3 rfl; have x4 := HB2.out.cell 0 4 rfl; simp only [List.getElem?_toArray, List.getElem?_cons_zero, List.getElem?_cons_succ, Nat.add_zero] at x0 x1 x2 x3 x4; have hl2 := HB2.out.lt 0 rfl; have hl2' := HB2.out.lt 1 rfl; rw [Nat.add_zero] at hl2)
          | ((with_reducible refine gate_store (t := nodeT) (p := 4) rfl ?_); refine store5 rfl rfl rfl rfl rfl (HB2.out.at_ 1 _ rfl) rfl (by kernel_rfl) (by rfl) (fun W9 hb9 hg9 => ?_); have HB9 := Aside0.mk hb9; have HG9 := Aside0.mk hg9; have z0 := blk_cell hb9 0; have z1 := blk_cell hb9 1; have z2 := blk_cell hb9 2; have z3 := blk_cell hb9 3; have z4 := blk_cell hb9 4; simp only [List.getElem?_toArray, List.getElem?_cons_zero, List.getElem?_cons_succ] at z0 z1 z2 z3 z4; clear hb9 hg9))
        have hBL := HB2.out
        refine bodyPost_ret (v := .tuple #[.agg #[.int .i64 0, .int .i64 0, .string ⟨#[]⟩, .slice none 0 0, .slice none 0 0], .int .i64 16]) (by simp [results, Try.results52, go_sem, z0, z1, z2, z3, z4]) rfl ⟨_, rfl, ndNil _ _, hBL.B.grown HG9.out hBL.B.size (fun k hk => by injection hk with hk; omega)⟩
    · rw [if_neg hc0] at hf
      injection hf with hf
      simp only [Prod.mk.injEq] at hf
      obtain ⟨rfl, rfl⟩ := hf
      have HC0 := Aside0.mk hc0
      clear hc0
      generalize chk n 1 = cc at HKC HC0 ⊢
      have c0b : (cc == 0) = false := by simpa using HC0.out
      have c0c : (cc != 0) = true := by simpa using HC0.out
      go_enter Try.func52, Try.ntmps52
      go_wp2_with fail
      generalize (w.alloc (.cells #[.int .i64 n.f0, .int .i64 n.f1, .string n.f2, .slice A3 n.f3.length c3, .slice A4 n.f4.length c4] nodeT)).alloc (.cells #[.int .i64 0, .int .i64 0, .string ⟨#[]⟩, .slice none 0 0, .slice none 0 0] nodeT) = W0 at HB0 ⊢
      go_wp2_with (first
        | (go_at_call 97; (with_reducible refine (version_Of.calls vv t0 t1 t2 t3 t4 t5 t6 0 W0 HV.out).mono ?_); rintro e w1 ⟨rfl, hb1⟩; have HB1 := Aside0.mk (HB0.out.step hb1); clear hb1; have x0 := HB1.out.cell 0 0 rfl; have x1 := HB1.out.cell 0 1 rfl; have x2 := HB1.out.cell 0 2 rfl; have x3 := HB1.out.cell 0 3 rfl; have x4 := HB1.out.cell 0 4 rfl; simp only [List.getElem?_toArray, List.getElem?_cons_zero, List.getElem?_cons_succ, Nat.add_zero] at x0 x1 x2 x3 x4; have hl1 := HB1.out.lt 0 rfl; have hl1' := HB1.out.lt 1 rfl; rw [Nat.add_zero] at hl1)
        | (go_at_call 18; have hbA := below_alloc (Below.refl w1.heap.size w1) (.cells #[.bool t0, .bool t1, .bool t2, .bool t3, .bool t4, .bool t5, .bool t6] 120); have hBA := (HB1.out.step hbA).B; (with_reducible refine (tree_Check.calls kc n.f0 n.f1 n.f2 A3 c3 n.f3 A4 c4 n.f4 cc _ (Kd.C_below HC3.out.2 hBA) HC3.out.1 (Kd.C_below HC4.out.2 hBA) HC4.out.1 HKC.out).mono ?_); rintro e w2 ⟨rfl, hb2⟩; clear x0 x1 x2 x3 x4; have HB2 := Aside0.mk ((HB1.out.step hbA).step hb2); clear hbA hBA hb2; have x0 := HB2.out.cell 0 0 rfl; have x1 := HB2.out.cell 0 1 rfl; have x2 := HB2.out.cell 0 2 rfl; have x3 := HB2.out.cell 0 3 rfl; have x4 := HB2.out.cell 0 4 rfl; simp only [List.getElem?_toArray, List.getElem?_cons_zero, List.getElem?_cons_succ, Nat.add_zero] at x0 x1 x2 x3 x4; have hl2 := HB2.out.lt 0 rfl; have hl2' := HB2.out.lt 1 rfl; rw [Nat.add_zero] at hl2)
        | ((with_reducible refine gate_store (t := nodeT) (p := 4) rfl ?_); refine store5 rfl rfl rfl rfl rfl (HB2.out.at_ 1 _ rfl) rfl (by kernel_rfl) (by rfl) (fun W9 hb9 hg9 => ?_); have HB9 := Aside0.mk hb9; have HG9 := Aside0.mk hg9; have z0 := blk_cell hb9 0; have z1 := blk_cell hb9 1; have z2 := blk_cell hb9 2; have z3 := blk_cell hb9 3; have z4 := blk_cell hb9 4; simp only [List.getElem?_toArray, List.getElem?_cons_zero, List.getElem?_cons_succ] at z0 z1 z2 z3 z4; clear hb9 hg9))
      have hBL := HB2.out
      refine bodyPost_ret (v := .tuple #[.agg #[.int .i64 0, .int .i64 0, .string ⟨#[]⟩, .slice none 0 0, .slice none 0 0], .int .i64 cc]) (by simp [results, Try.results52, go_sem, z0, z1, z2, z3, z4]) rfl ⟨_, rfl, ndNil _ _, hBL.B.grown HG9.out hBL.B.size (fun k hk => by injection hk with hk; omega)⟩
  · rw [if_neg h7] at hf
    injection hf with hf
    simp only [Prod.mk.injEq] at hf
    obtain ⟨rfl, rfl⟩ := hf
    have c7b : (t7 == 0) = false := by simpa using h7
    have c7c : (t7 != 0) = true := by simpa using h7
    clear h7
    go_enter Try.func52, Try.ntmps52
    go_wp2_with fail
    generalize (w.alloc (.cells #[.int .i64 n.f0, .int .i64 n.f1, .string n.f2, .slice A3 n.f3.length c3, .slice A4 n.f4.length c4] nodeT)).alloc (.cells #[.int .i64 0, .int .i64 0, .string ⟨#[]⟩, .slice none 0 0, .slice none 0 0] nodeT) = W0 at HB0 ⊢
    go_wp2_with (first
      | (go_at_call 97; (with_reducible refine (version_Of.calls vv t0 t1 t2 t3 t4 t5 t6 t7 W0 HV.out).mono ?_); rintro e w1 ⟨rfl, hb1⟩; have HB1 := Aside0.mk (HB0.out.step hb1); clear hb1; have x0 := HB1.out.cell 0 0 rfl; have x1 := HB1.out.cell 0 1 rfl; have x2 := HB1.out.cell 0 2 rfl; have x3 := HB1.out.cell 0 3 rfl; have x4 := HB1.out.cell 0 4 rfl; simp only [List.getElem?_toArray, List.getElem?_cons_zero, List.getElem?_cons_succ, Nat.add_zero] at x0 x1 x2 x3 x4; have hl1 := HB1.out.lt 0 rfl; have hl1' := HB1.out.lt 1 rfl; rw [Nat.add_zero] at hl1)
      | ((with_reducible refine gate_store (t := nodeT) (p := 4) rfl ?_); refine store5 rfl rfl rfl rfl rfl ((HB1.out.step (below_alloc (Below.refl w1.heap.size w1) (.cells #[.bool t0, .bool t1, .bool t2, .bool t3, .bool t4, .bool t5, .bool t6] 120))).at_ 1 _ rfl) rfl (by kernel_rfl) (by rfl) (fun W9 hb9 hg9 => ?_); have HB9 := Aside0.mk hb9; have HG9 := Aside0.mk hg9; have z0 := blk_cell hb9 0; have z1 := blk_cell hb9 1; have z2 := blk_cell hb9 2; have z3 := blk_cell hb9 3; have z4 := blk_cell hb9 4; simp only [List.getElem?_toArray, List.getElem?_cons_zero, List.getElem?_cons_succ] at z0 z1 z2 z3 z4; clear hb9 hg9))
    have hBL := (HB1.out.step (below_alloc (Below.refl w1.heap.size w1) (.cells #[.bool t0, .bool t1, .bool t2, .bool t3, .bool t4, .bool t5, .bool t6] 120)))
    refine bodyPost_ret (v := .tuple #[.agg #[.int .i64 0, .int .i64 0, .string ⟨#[]⟩, .slice none 0 0, .slice none 0 0], .int .i64 t7]) (by simp [results, Try.results52, go_sem, z0, z1, z2, z3, z4]) rfl ⟨_, rfl, ndNil _ _, hBL.B.grown HG9.out hBL.B.size (fun k hk => by injection hk with hk; omega)⟩
end Go.Proofs.Ytjdldlphfifggaa.X
end
section
namespace Go.Proofs.Ytjdldlphfifggaa.X
open Go.RowKit Go.Proofs.YtjdldlphfifggaaW.PrintWords Go.Proofs.YtjdldlphfifggaaW.PrintLast Go.Proofs.YtjdldlphfifggaaW.PrintMore
attribute [local go_sem] max2_int min2_int max_two min_two max_three min_three max_four min_four
set_option linter.unusedVariables false
set_option linter.unusedSimpArgs false
def tree_Text.f (a0 : ByteArray) : Option (Int × Int × ByteArray × List ByteArray × (List (S25))) := some (4, 0, a0, ([] : List ByteArray), ([] : List (S25)))
set_option maxHeartbeats 8000000 in
set_option maxRecDepth 100000 in
theorem tree_Text.calls (a0 : ByteArray) (r1 : Int) (r2 : Int) (r3 : ByteArray) (r4 : List ByteArray) (r5 : List (S25)) (w : World) (h : tree_Text.f a0 = some (r1, r2, r3, r4, r5)) :
    Calls Try.prog 37 #[.string a0] w fun e w' => ∃ v3_ v4_ : Value, e = .returned (.agg #[.int .i64 r1, .int .i64 r2, .string r3, v3_, v4_]) ∧ Kd.R Kd.string 9 w' w.heap.size (fun _ => True) v3_ r4 ∧ Kd.R k25 25 w' w.heap.size (fun k_ => some k_ ≠ (v3_ : Value).ownBlock) v4_ r5 ∧ Below w.heap.size w w' := by
  have hu25 := Try.underlying25
  have HB := Aside0.mk (Below.refl w.heap.size w)
  have H : (some (4, 0, a0, ([] : List ByteArray), ([] : List (S25)))) = some (r1, r2, r3, r4, r5) := h
  clear h
  simp only [Option.some.injEq, Prod.mk.injEq] at H
  obtain ⟨rfl, rfl, rfl, rfl, rfl⟩ := H
  go_enter Try.func37, Try.ntmps37
  go_wp2_with (first | ((with_reducible refine gate_dst (N := 2) rfl ?_); refine box_event ?hg (N := 2) ?hd (cs := #[.int .i64 0, .int .i64 0, .string (⟨#[]⟩ : ByteArray), .slice none 0 0, .slice none 0 0]) (t := 25) ?hr ?_; (case hd => rfl); (case hg => rfl); (case hr => first | (go_simp; done) | (go_simp; rfl)); intro gb129 hg w2 hbox hb; have n0_ := Aside0.mk (below_step (by repeat (first | (with_reducible first | exact HB.out | apply below_alloc | apply pw_below_drewN | apply below_drew1) | exact HB.out)) hb); have n1_ := Aside0.mk (hbox); have n2_ := Aside0.mk ((by rw [hg]; exact (below_size (by repeat (first | (with_reducible first | exact HB.out | apply below_alloc | apply pw_below_drewN | apply below_drew1) | exact HB.out))) : w.heap.size ≤ gb129)); have n3_ := Aside0.mk ((by rw [hg]; exact (below_size (by repeat (first | (with_reducible first | exact HB.out | apply below_alloc | apply pw_below_drewN | apply below_drew1) | exact HB.out))) : w.heap.size ≤ gb129)); clear HB; have HB := n0_; have BK129 := n1_; have GW129 := n2_; have GE129 := n3_; clear n0_ n1_ n2_ n3_; clear hb hbox hg; have hcz3_0 : w2.cell? ⟨gb129, 0, none⟩ = some (.int .i64 0) := (blk_cell BK129.out 0).trans rfl; have hcz3_1 : w2.cell? ⟨gb129, 1, none⟩ = some (.int .i64 0) := (blk_cell BK129.out 1).trans rfl; have hcz3_2 : w2.cell? ⟨gb129, 2, none⟩ = some (.string (⟨#[]⟩ : ByteArray)) := (blk_cell BK129.out 2).trans rfl; have hcz3_3 : w2.cell? ⟨gb129, 3, none⟩ = some (.slice none 0 0) := (blk_cell BK129.out 3).trans rfl; have hcz3_4 : w2.cell? ⟨gb129, 4, none⟩ = some (.slice none 0 0) := (blk_cell BK129.out 4).trans rfl; have hfz3_0 := blk_frozen BK129.out 0; have hfz3_1 := blk_frozen BK129.out 1; have hfz3_2 := blk_frozen BK129.out 2; have hfz3_3 := blk_frozen BK129.out 3; have hfz3_4 := blk_frozen BK129.out 4))
  refine bodyPost_ret (results_cell_row rfl _ _ gb129 25 #[.int .i64 4, .int .i64 0, .string a0, .slice none 0 0, .slice none 0 0] (0, 0) _ rfl (by (with_reducible repeat (first | refine blk_drewN ?_ _ | refine blk_drew ?_ | refine blk_alloc ?_ _)); refine blk_put (cs := #[.int .i64 4, .int .i64 0, .string a0, .slice none 0 0, .slice none 0 0]) ?_ 4 _ rfl; (with_reducible repeat (first | refine blk_drewN ?_ _ | refine blk_drew ?_ | refine blk_alloc ?_ _)); refine blk_put (cs := #[.int .i64 4, .int .i64 0, .string a0, .slice none 0 0, .slice none 0 0]) ?_ 3 _ rfl; (with_reducible repeat (first | refine blk_drewN ?_ _ | refine blk_drew ?_ | refine blk_alloc ?_ _)); refine blk_put (cs := #[.int .i64 4, .int .i64 0, .string (⟨#[]⟩ : ByteArray), .slice none 0 0, .slice none 0 0]) ?_ 2 _ rfl; (with_reducible repeat (first | refine blk_drewN ?_ _ | refine blk_drew ?_ | refine blk_alloc ?_ _)); refine blk_put (cs := #[.int .i64 4, .int .i64 0, .string (⟨#[]⟩ : ByteArray), .slice none 0 0, .slice none 0 0]) ?_ 1 _ rfl; (with_reducible repeat (first | refine blk_drewN ?_ _ | refine blk_drew ?_ | refine blk_alloc ?_ _)); refine blk_put (cs := #[.int .i64 0, .int .i64 0, .string (⟨#[]⟩ : ByteArray), .slice none 0 0, .slice none 0 0]) ?_ 0 _ rfl; (with_reducible repeat (first | refine blk_drewN ?_ _ | refine blk_drew ?_ | refine blk_alloc ?_ _)); exact BK129.out) Try.underlying25 rfl (by kernel_rfl)) rfl ?_
  exact ⟨_, _, by first | rfl | (simp [errW_none, errW_some] <;> rfl) | (simp [*, errW_none, errW_some] <;> rfl), by first | exact Kd.R_nil _ _ _ _ _ | exact Kd.N_nil _ _ _ _ _ | exact Kd.V_nil _ _ _ _ _ | exact Kd.Q_nil _ _ _ _ _ | exact Kd.S_nil _ _ _ _ _, by first | exact Kd.R_nil _ _ _ _ _ | exact Kd.N_nil _ _ _ _ _ | exact Kd.V_nil _ _ _ _ _ | exact Kd.Q_nil _ _ _ _ _ | exact Kd.S_nil _ _ _ _ _, by repeat (first | (with_reducible first | exact HB.out | apply below_alloc | apply pw_below_drewN | apply below_drew1 | refine below_set ?_ GE129.out) | exact HB.out)⟩
end Go.Proofs.Ytjdldlphfifggaa.X
end
section
namespace Go.Proofs.Ytjdldlphfifggaa.X
open Go.RowKit Go.Proofs.YtjdldlphfifggaaW.PrintWords Go.Proofs.YtjdldlphfifggaaW.PrintLast Go.Proofs.YtjdldlphfifggaaW.PrintMore
attribute [local go_sem] max2_int min2_int max_two min_two max_three min_three max_four min_four
set_option linter.unusedVariables false
set_option linter.unusedSimpArgs false
def tree_Int.f (a0 : Int) : Option (Int × Int × ByteArray × List ByteArray × (List (S25))) := some (3, a0, (⟨#[]⟩ : ByteArray), ([] : List ByteArray), ([] : List (S25)))
set_option maxHeartbeats 8000000 in
set_option maxRecDepth 100000 in
theorem tree_Int.calls (a0 : Int) (r1 : Int) (r2 : Int) (r3 : ByteArray) (r4 : List ByteArray) (r5 : List (S25)) (w : World) (h : tree_Int.f a0 = some (r1, r2, r3, r4, r5)) :
    Calls Try.prog 33 #[.int .i64 a0] w fun e w' => ∃ v3_ v4_ : Value, e = .returned (.agg #[.int .i64 r1, .int .i64 r2, .string r3, v3_, v4_]) ∧ Kd.R Kd.string 9 w' w.heap.size (fun _ => True) v3_ r4 ∧ Kd.R k25 25 w' w.heap.size (fun k_ => some k_ ≠ (v3_ : Value).ownBlock) v4_ r5 ∧ Below w.heap.size w w' := by
  have hu25 := Try.underlying25
  have HB := Aside0.mk (Below.refl w.heap.size w)
  have H : (some (3, a0, (⟨#[]⟩ : ByteArray), ([] : List ByteArray), ([] : List (S25)))) = some (r1, r2, r3, r4, r5) := h
  clear h
  simp only [Option.some.injEq, Prod.mk.injEq] at H
  obtain ⟨rfl, rfl, rfl, rfl, rfl⟩ := H
  go_enter Try.func33, Try.ntmps33
  go_wp2_with (first | ((with_reducible refine gate_dst (N := 2) rfl ?_); refine box_event ?hg (N := 2) ?hd (cs := #[.int .i64 0, .int .i64 0, .string (⟨#[]⟩ : ByteArray), .slice none 0 0, .slice none 0 0]) (t := 25) ?hr ?_; (case hd => rfl); (case hg => rfl); (case hr => first | (go_simp; done) | (go_simp; rfl)); intro gb465 hg w2 hbox hb; have n0_ := Aside0.mk (below_step (by repeat (first | (with_reducible first | exact HB.out | apply below_alloc | apply pw_below_drewN | apply below_drew1) | exact HB.out)) hb); have n1_ := Aside0.mk (hbox); have n2_ := Aside0.mk ((by rw [hg]; exact (below_size (by repeat (first | (with_reducible first | exact HB.out | apply below_alloc | apply pw_below_drewN | apply below_drew1) | exact HB.out))) : w.heap.size ≤ gb465)); have n3_ := Aside0.mk ((by rw [hg]; exact (below_size (by repeat (first | (with_reducible first | exact HB.out | apply below_alloc | apply pw_below_drewN | apply below_drew1) | exact HB.out))) : w.heap.size ≤ gb465)); clear HB; have HB := n0_; have BK465 := n1_; have GW465 := n2_; have GE465 := n3_; clear n0_ n1_ n2_ n3_; clear hb hbox hg; have hcz3_0 : w2.cell? ⟨gb465, 0, none⟩ = some (.int .i64 0) := (blk_cell BK465.out 0).trans rfl; have hcz3_1 : w2.cell? ⟨gb465, 1, none⟩ = some (.int .i64 0) := (blk_cell BK465.out 1).trans rfl; have hcz3_2 : w2.cell? ⟨gb465, 2, none⟩ = some (.string (⟨#[]⟩ : ByteArray)) := (blk_cell BK465.out 2).trans rfl; have hcz3_3 : w2.cell? ⟨gb465, 3, none⟩ = some (.slice none 0 0) := (blk_cell BK465.out 3).trans rfl; have hcz3_4 : w2.cell? ⟨gb465, 4, none⟩ = some (.slice none 0 0) := (blk_cell BK465.out 4).trans rfl; have hfz3_0 := blk_frozen BK465.out 0; have hfz3_1 := blk_frozen BK465.out 1; have hfz3_2 := blk_frozen BK465.out 2; have hfz3_3 := blk_frozen BK465.out 3; have hfz3_4 := blk_frozen BK465.out 4))
  refine bodyPost_ret (results_cell_row rfl _ _ gb465 25 #[.int .i64 3, .int .i64 a0, .string (⟨#[]⟩ : ByteArray), .slice none 0 0, .slice none 0 0] (0, 0) _ rfl (by (with_reducible repeat (first | refine blk_drewN ?_ _ | refine blk_drew ?_ | refine blk_alloc ?_ _)); refine blk_put (cs := #[.int .i64 3, .int .i64 a0, .string (⟨#[]⟩ : ByteArray), .slice none 0 0, .slice none 0 0]) ?_ 4 _ rfl; (with_reducible repeat (first | refine blk_drewN ?_ _ | refine blk_drew ?_ | refine blk_alloc ?_ _)); refine blk_put (cs := #[.int .i64 3, .int .i64 a0, .string (⟨#[]⟩ : ByteArray), .slice none 0 0, .slice none 0 0]) ?_ 3 _ rfl; (with_reducible repeat (first | refine blk_drewN ?_ _ | refine blk_drew ?_ | refine blk_alloc ?_ _)); refine blk_put (cs := #[.int .i64 3, .int .i64 a0, .string (⟨#[]⟩ : ByteArray), .slice none 0 0, .slice none 0 0]) ?_ 2 _ rfl; (with_reducible repeat (first | refine blk_drewN ?_ _ | refine blk_drew ?_ | refine blk_alloc ?_ _)); refine blk_put (cs := #[.int .i64 3, .int .i64 0, .string (⟨#[]⟩ : ByteArray), .slice none 0 0, .slice none 0 0]) ?_ 1 _ rfl; (with_reducible repeat (first | refine blk_drewN ?_ _ | refine blk_drew ?_ | refine blk_alloc ?_ _)); refine blk_put (cs := #[.int .i64 0, .int .i64 0, .string (⟨#[]⟩ : ByteArray), .slice none 0 0, .slice none 0 0]) ?_ 0 _ rfl; (with_reducible repeat (first | refine blk_drewN ?_ _ | refine blk_drew ?_ | refine blk_alloc ?_ _)); exact BK465.out) Try.underlying25 rfl (by kernel_rfl)) rfl ?_
  exact ⟨_, _, by first | rfl | (simp [errW_none, errW_some] <;> rfl) | (simp [*, errW_none, errW_some] <;> rfl), by first | exact Kd.R_nil _ _ _ _ _ | exact Kd.N_nil _ _ _ _ _ | exact Kd.V_nil _ _ _ _ _ | exact Kd.Q_nil _ _ _ _ _ | exact Kd.S_nil _ _ _ _ _, by first | exact Kd.R_nil _ _ _ _ _ | exact Kd.N_nil _ _ _ _ _ | exact Kd.V_nil _ _ _ _ _ | exact Kd.Q_nil _ _ _ _ _ | exact Kd.S_nil _ _ _ _ _, by repeat (first | (with_reducible first | exact HB.out | apply below_alloc | apply pw_below_drewN | apply below_drew1 | refine below_set ?_ GE465.out) | exact HB.out)⟩
end Go.Proofs.Ytjdldlphfifggaa.X
end
section
namespace Go.Proofs.Ytjdldlphfifggaa.X
open Go.RowKit Go.Proofs.YtjdldlphfifggaaW.PrintWords Go.Proofs.YtjdldlphfifggaaW.PrintLast Go.Proofs.YtjdldlphfifggaaW.PrintMore
attribute [local go_sem] max2_int min2_int max_two min_two max_three min_three max_four min_four
set_option linter.unusedVariables false
set_option linter.unusedSimpArgs false
def tree_Map.l0 : Nat → List (S25) → Int → Int → Int → ByteArray → List ByteArray → List (S25) → Option (Int × Int × ByteArray × List ByteArray × (List (S25)))
  | 0, _, _, _, _, _, _, _ => none
  | k + 1, x0, x4, x139000, x139001, x139002, x139003, x139004 => if (wrap64 (x4 + 1)) < (x0.length : Int) then (if 0 ≤ x4 then (if x4 < (x0.length : Int) then (if x139003.length < 8796093022208 then (if 0 ≤ (wrap64 (x4 + 1)) then (if x139004.length < 1759218604441 then (tree_Map.l0 k x0 (wrap64 (x4 + 2)) x139000 x139001 x139002 (x139003 ++ [(rd_T25 x0 x4).f2]) (x139004 ++ [(⟨(rd_T25 x0 (wrap64 (x4 + 1))).f0, (rd_T25 x0 (wrap64 (x4 + 1))).f1, (rd_T25 x0 (wrap64 (x4 + 1))).f2, (rd_T25 x0 (wrap64 (x4 + 1))).f3, (rd_T25 x0 (wrap64 (x4 + 1))).f4⟩ : S25)])) else (none)) else (none)) else (none)) else (none)) else (none)) else (some (x139000, x139001, x139002, x139003, x139004))
def tree_Map.f (k : Nat) (l0 : List (S25)) : Option (Int × Int × ByteArray × List ByteArray × (List (S25))) := tree_Map.l0 k l0 0 6 0 (⟨#[]⟩ : ByteArray) ([] : List ByteArray) ([] : List (S25))
theorem tree_Map.mono_l : ∀ k, (∀ y0 y1 y2 y3 y4 y5 y6, LeO (tree_Map.l0 k y0 y1 y2 y3 y4 y5 y6) (tree_Map.l0 (k + 1) y0 y1 y2 y3 y4 y5 y6))
  | 0 => fun _ _ _ _ _ _ _ r h => by simp [tree_Map.l0] at h
  | k + 1 => by
    have ih0 := tree_Map.mono_l k
    · intro y0 y1 y2 y3 y4 y5 y6
      unfold tree_Map.l0
      repeat' first
      | (with_reducible exact ih0 _ _ _ _ _ _ _)
      | (with_reducible exact LeO.refl _)
      | (with_reducible exact LeO.none _)
      | (with_reducible refine LeO.ite ?_ ?_)
      | (with_reducible refine LeO.bind ?_ (fun _ => ?_))
      | exact ih0 _ _ _ _ _ _ _
      | exact LeO.none _
      | refine LeO.ite ?_ ?_
      | refine LeO.bind ?_ (fun _ => ?_)
theorem tree_Map.mono : ∀ a0 k, LeO (tree_Map.f k a0) (tree_Map.f (k + 1) a0) := by
  intro a0 k
  have ih0 := tree_Map.mono_l k
  unfold tree_Map.f
  repeat' first
      | (with_reducible exact ih0 _ _ _ _ _ _ _)
      | (with_reducible exact LeO.refl _)
      | (with_reducible exact LeO.none _)
      | (with_reducible refine LeO.ite ?_ ?_)
      | (with_reducible refine LeO.bind ?_ (fun _ => ?_))
      | exact ih0 _ _ _ _ _ _ _
      | exact LeO.none _
      | refine LeO.ite ?_ ?_
      | refine LeO.bind ?_ (fun _ => ?_)
def tree_Map.T5 : Bool × List (List Nat × List Nat) := (true, [([], []), ([0], [0]), ([], []), ([], []), ([2, 3], [2, 3]), ([4], [4]), ([5], [5]), ([6], [6]), ([1, 7], [1, 7]), ([0, 1, 2, 3, 4, 5, 6, 7, 8], []), ([9, 8, 8, 0, 1, 2, 3, 4, 5, 6, 7, 8], [8, 9])])
def tree_Map.B5 : List Nat := [0, 1, 0, 0, 12, 28, 60, 124, 255, 511, 1023]
theorem tree_Map.tab5 : rtab .any (opsOf Try.f41 5) = tree_Map.T5 := by kernel_rfl
theorem tree_Map.bits5 : waitsOk tree_Map.T5.2 tree_Map.B5 = true := by kernel_rfl
def tree_Map.T6 : Bool × List (List Nat × List Nat) := (true, [([], []), ([0], [0]), ([], []), ([], []), ([3], [3]), ([2, 4], [2, 4]), ([5], [5]), ([6], [6]), ([1, 7], [1, 7]), ([0, 1, 2, 3, 4, 5, 6, 7, 8], []), ([9, 8, 8, 0, 1, 2, 3, 4, 5, 6, 7, 8], [8, 9])])
def tree_Map.B6 : List Nat := [0, 1, 0, 0, 8, 28, 60, 124, 255, 511, 1023]
theorem tree_Map.tab6 : rtab .any (opsOf Try.f41 6) = tree_Map.T6 := by kernel_rfl
theorem tree_Map.bits6 : waitsOk tree_Map.T6.2 tree_Map.B6 = true := by kernel_rfl
set_option maxHeartbeats 8000000 in
set_option maxRecDepth 100000 in
theorem tree_Map.calls (k : Nat) (P0_ : Nat → Prop) (A0 : Option Addr) (c0 : Nat) (l0 : List (S25)) (r1 : Int) (r2 : Int) (r3 : ByteArray) (r4 : List ByteArray) (r5 : List (S25)) (w : World) (hs0 : Kd.V k25 25 w w.heap.size (fun k_ => P0_ k_) (.slice A0 l0.length c0) l0) (h : tree_Map.f k l0 = some (r1, r2, r3, r4, r5)) :
    Calls Try.prog 41 #[.slice A0 l0.length c0] w fun e w' => ∃ v3_ v4_ : Value, e = .returned (.agg #[.int .i64 r1, .int .i64 r2, .string r3, v3_, v4_]) ∧ Kd.R Kd.string 9 w' w.heap.size (fun k_ => (w.heap.size ≤ k_)) v3_ r4 ∧ Kd.N k25 25 w' w.heap.size (fun k_ => (P0_ k_ ∨ w.heap.size ≤ k_) ∧ some k_ ≠ (v3_ : Value).ownBlock) v4_ r5 ∧ Below w.heap.size w w' := by
  have hu25 := Try.underlying25
  have HO0 := Aside0.mk (show Kd.V k25 25 w w.heap.size (fun k_ => (P0_ k_ ∨ w.heap.size ≤ k_)) (.slice A0 l0.length c0) l0 from Kd.V_mono hs0 (fun k_ hk => .inl hk))
  have HB := Aside0.mk (Below.refl w.heap.size w)
  have H : (tree_Map.l0 k l0 0 6 0 (⟨#[]⟩ : ByteArray) ([] : List ByteArray) ([] : List (S25))) = some (r1, r2, r3, r4, r5) := h
  clear h
  have H' := Aside0.mk H
  clear H
  go_enter Try.func41, Try.ntmps41
  go_wp2_with (first | ((with_reducible refine gate_dst (N := 2) rfl ?_); refine box_event ?hg (N := 2) ?hd (cs := #[.int .i64 0, .int .i64 0, .string (⟨#[]⟩ : ByteArray), .slice none 0 0, .slice none 0 0]) (t := 25) ?hr ?_; (case hd => rfl); (case hg => rfl); (case hr => first | (go_simp; done) | (go_simp; rfl)); intro gb137 hg w2 hbox hb; have n0_ := Aside0.mk (Kd.V_below (Kd.V_elderB (by (with_reducible repeat (first | apply Kd.V_alloc | apply Kd.V_drewN | apply Kd.V_drew)); exact HO0.out) gb137 (Nat.le_of_eq hg.symm)) hb); have n1_ := Aside0.mk (below_step (by repeat (first | (with_reducible first | exact HB.out | apply below_alloc | apply pw_below_drewN | apply below_drew1) | exact HB.out)) hb); have n2_ := Aside0.mk (hbox); have n3_ := Aside0.mk ((by rw [hg]; exact (below_size (by repeat (first | (with_reducible first | exact HB.out | apply below_alloc | apply pw_below_drewN | apply below_drew1) | exact HB.out))) : w.heap.size ≤ gb137)); have n4_ := Aside0.mk ((by rw [hg]; exact (below_size (by repeat (first | (with_reducible first | exact HB.out | apply below_alloc | apply pw_below_drewN | apply below_drew1) | exact HB.out))) : w.heap.size ≤ gb137)); clear HO0; clear HB; have HO0 := n0_; have HB := n1_; have BK137 := n2_; have GW137 := n3_; have GE137 := n4_; clear n0_ n1_ n2_ n3_ n4_; clear hb hbox hg) | ((with_reducible refine gate_dst (N := 3) rfl ?_); refine box_event ?hg (N := 3) ?hd (cs := #[.int .i64 0, .int .i64 0, .string (⟨#[]⟩ : ByteArray), .slice none 0 0, .slice none 0 0]) (t := 25) ?hr ?_; (case hd => rfl); (case hg => rfl); (case hr => first | (go_simp; done) | (go_simp; rfl)); intro gb138 hg w3 hbox hb; have n0_ := Aside0.mk (Kd.V_below (Kd.V_elderB (by (with_reducible repeat (first | apply Kd.V_alloc | apply Kd.V_drewN | apply Kd.V_drew)); exact HO0.out) gb138 (Nat.le_of_eq hg.symm)) hb); have n1_ := Aside0.mk (blk_below (g := gb137) (o := .cells #[.int .i64 0, .int .i64 0, .string (⟨#[]⟩ : ByteArray), .slice none 0 0, .slice none 0 0] 25 (0, 0)) (by (with_reducible repeat (first | refine blk_drewN ?_ _ | refine blk_drew ?_ | refine blk_alloc ?_ _)); exact BK137.out) hb); have n2_ := Aside0.mk (below_step (by repeat (first | (with_reducible first | exact HB.out | apply below_alloc | apply pw_below_drewN | apply below_drew1 | refine below_set ?_ GE137.out) | exact HB.out)) hb); have n3_ := Aside0.mk (hbox); have n4_ := Aside0.mk ((by rw [hg]; exact (below_size (by repeat (first | (with_reducible first | exact HB.out | apply below_alloc | apply pw_below_drewN | apply below_drew1 | refine below_set ?_ GE137.out) | exact HB.out))) : w.heap.size ≤ gb138)); have n5_ := Aside0.mk ((by rw [hg]; exact (below_size (by repeat (first | (with_reducible first | exact HB.out | apply below_alloc | apply pw_below_drewN | apply below_drew1 | refine below_set ?_ GE137.out) | exact HB.out))) : w.heap.size ≤ gb138)); have n6_ := Aside0.mk ((by rw [hg]; exact Nat.ne_of_lt (blk_lt (g := gb137) (o := .cells #[.int .i64 0, .int .i64 0, .string (⟨#[]⟩ : ByteArray), .slice none 0 0, .slice none 0 0] 25 (0, 0)) (by (with_reducible repeat (first | refine blk_drewN ?_ _ | refine blk_drew ?_ | refine blk_alloc ?_ _)); exact BK137.out)) : gb137 ≠ gb138)); have n7_ := Aside0.mk ((by rw [hg]; exact Nat.ne_of_gt (blk_lt (g := gb137) (o := .cells #[.int .i64 0, .int .i64 0, .string (⟨#[]⟩ : ByteArray), .slice none 0 0, .slice none 0 0] 25 (0, 0)) (by (with_reducible repeat (first | refine blk_drewN ?_ _ | refine blk_drew ?_ | refine blk_alloc ?_ _)); exact BK137.out)) : gb138 ≠ gb137)); clear HO0; clear BK137; clear HB; have HO0 := n0_; have BK137 := n1_; have HB := n2_; have BK138 := n3_; have GW138 := n4_; have GE138 := n5_; have NB137_138 := n6_; have NB138_137 := n7_; clear n0_ n1_ n2_ n3_ n4_ n5_ n6_ n7_; clear hb hbox hg; have hnb4 := NB138_137.out; have hnc4 := NB137_138.out; have hcz5_0 : w3.cell? ⟨gb138, 0, none⟩ = some (.int .i64 0) := (blk_cell BK138.out 0).trans rfl; have hcz5_1 : w3.cell? ⟨gb138, 1, none⟩ = some (.int .i64 0) := (blk_cell BK138.out 1).trans rfl; have hcz5_2 : w3.cell? ⟨gb138, 2, none⟩ = some (.string (⟨#[]⟩ : ByteArray)) := (blk_cell BK138.out 2).trans rfl; have hcz5_3 : w3.cell? ⟨gb138, 3, none⟩ = some (.slice none 0 0) := (blk_cell BK138.out 3).trans rfl; have hcz5_4 : w3.cell? ⟨gb138, 4, none⟩ = some (.slice none 0 0) := (blk_cell BK138.out 4).trans rfl; have hfz5_0 := blk_frozen BK138.out 0; have hfz5_1 := blk_frozen BK138.out 1; have hfz5_2 := blk_frozen BK138.out 2; have hfz5_3 := blk_frozen BK138.out 3; have hfz5_4 := blk_frozen BK138.out 4))
  go_loopg [4] k (fun kq v4 w' => ∃ (x4_1 : Int) (x139003_1 : List ByteArray) (x139004_1 : List (S25)) (u139003 : Value) (u139004 : Value), v4 = .int .i64 x4_1 ∧ Aside0 (tree_Map.l0 kq l0 x4_1 6 0 (⟨#[]⟩ : ByteArray) x139003_1 x139004_1 = some (r1, r2, r3, r4, r5)) ∧ Aside0 (kq ≤ k) ∧ Aside0 (Kd.V k25 25 w' w.heap.size (fun k_ => (P0_ k_ ∨ w.heap.size ≤ k_) ∧ some k_ ≠ (u139003 : Value).ownBlock ∧ some k_ ≠ (u139004 : Value).ownBlock ∧ k_ ≠ gb137 ∧ k_ ≠ gb138) (.slice A0 l0.length c0) l0) ∧ Aside0 (Kd.R Kd.string 9 w' w.heap.size (fun k_ => (w.heap.size ≤ k_)) u139003 x139003_1) ∧ Aside0 (Kd.N k25 25 w' w.heap.size (fun k_ => (P0_ k_ ∨ w.heap.size ≤ k_) ∧ some k_ ≠ (u139003 : Value).ownBlock ∧ k_ ≠ gb137 ∧ k_ ≠ gb138) u139004 x139004_1) ∧ Aside0 (w'.heap[gb137]? = some (.cells #[.int .i64 0, .int .i64 0, .string (⟨#[]⟩ : ByteArray), (.slice none 0 0), (.slice none 0 0)] 25 (0, 0))) ∧ Aside0 (w'.heap[gb138]? = some (.cells #[.int .i64 6, .int .i64 0, .string (⟨#[]⟩ : ByteArray), u139003, u139004] 25 (0, 0))) ∧ Aside0 (Below w.heap.size w w'))
  case atStart => exact ⟨(0), (([] : List ByteArray)), (([] : List (S25))), (.slice none 0 0), (.slice none 0 0), (by first | rfl | (simp; done) | (simp [*]; done)), (by first | with_reducible exact H' | exact H' | (subst_vars; exact H')), ⟨Nat.le_refl _⟩, ⟨by (with_reducible repeat (first | apply Kd.V_alloc | apply Kd.V_drewN | apply Kd.V_drew)); exact Kd.V_mono (Kd.V_far (p := ⟨gb138, 4, none⟩) (Kd.V_far (p := ⟨gb138, 3, none⟩) (Kd.V_far (p := ⟨gb138, 2, none⟩) (Kd.V_far (p := ⟨gb138, 1, none⟩) (Kd.V_far (p := ⟨gb138, 0, none⟩) (Kd.V_mono HO0.out (fun k_ hk => (⟨hk, hk.2⟩ : _ ∧ k_ ≠ gb138))) (fun _ hk => hk.2) (.int .i64 6)) (fun _ hk => hk.2) (.int .i64 0)) (fun _ hk => hk.2) (.string (⟨#[]⟩ : ByteArray))) (fun _ hk => hk.2) (.slice none 0 0)) (fun _ hk => hk.2) (.slice none 0 0)) (fun _ hk => ⟨hk.1.1.1, ⟨(by simp [Value.ownBlock]), ⟨(by simp [Value.ownBlock]), ⟨hk.1.1.2, hk.1.2⟩⟩⟩⟩)⟩, ⟨by first | exact Kd.R_nil _ _ _ _ _ | exact Kd.N_nil _ _ _ _ _ | exact Kd.V_nil _ _ _ _ _ | exact Kd.Q_nil _ _ _ _ _ | exact Kd.S_nil _ _ _ _ _⟩, ⟨by first | exact Kd.R_nil _ _ _ _ _ | exact Kd.N_nil _ _ _ _ _ | exact Kd.V_nil _ _ _ _ _ | exact Kd.Q_nil _ _ _ _ _ | exact Kd.S_nil _ _ _ _ _⟩, ⟨by (with_reducible repeat (first | refine blk_drewN ?_ _ | refine blk_drew ?_ | refine blk_alloc ?_ _)); refine blk_far ?_ NB137_138.out _; (with_reducible repeat (first | refine blk_drewN ?_ _ | refine blk_drew ?_ | refine blk_alloc ?_ _)); refine blk_far ?_ NB137_138.out _; (with_reducible repeat (first | refine blk_drewN ?_ _ | refine blk_drew ?_ | refine blk_alloc ?_ _)); refine blk_far ?_ NB137_138.out _; (with_reducible repeat (first | refine blk_drewN ?_ _ | refine blk_drew ?_ | refine blk_alloc ?_ _)); refine blk_far ?_ NB137_138.out _; (with_reducible repeat (first | refine blk_drewN ?_ _ | refine blk_drew ?_ | refine blk_alloc ?_ _)); refine blk_far ?_ NB137_138.out _; (with_reducible repeat (first | refine blk_drewN ?_ _ | refine blk_drew ?_ | refine blk_alloc ?_ _)); exact BK137.out⟩, ⟨by (with_reducible repeat (first | refine blk_drewN ?_ _ | refine blk_drew ?_ | refine blk_alloc ?_ _)); refine blk_put (cs := #[.int .i64 6, .int .i64 0, .string (⟨#[]⟩ : ByteArray), .slice none 0 0, .slice none 0 0]) ?_ 4 _ rfl; (with_reducible repeat (first | refine blk_drewN ?_ _ | refine blk_drew ?_ | refine blk_alloc ?_ _)); refine blk_put (cs := #[.int .i64 6, .int .i64 0, .string (⟨#[]⟩ : ByteArray), .slice none 0 0, .slice none 0 0]) ?_ 3 _ rfl; (with_reducible repeat (first | refine blk_drewN ?_ _ | refine blk_drew ?_ | refine blk_alloc ?_ _)); refine blk_put (cs := #[.int .i64 6, .int .i64 0, .string (⟨#[]⟩ : ByteArray), .slice none 0 0, .slice none 0 0]) ?_ 2 _ rfl; (with_reducible repeat (first | refine blk_drewN ?_ _ | refine blk_drew ?_ | refine blk_alloc ?_ _)); refine blk_put (cs := #[.int .i64 6, .int .i64 0, .string (⟨#[]⟩ : ByteArray), .slice none 0 0, .slice none 0 0]) ?_ 1 _ rfl; (with_reducible repeat (first | refine blk_drewN ?_ _ | refine blk_drew ?_ | refine blk_alloc ?_ _)); refine blk_put (cs := #[.int .i64 0, .int .i64 0, .string (⟨#[]⟩ : ByteArray), .slice none 0 0, .slice none 0 0]) ?_ 0 _ rfl; (with_reducible repeat (first | refine blk_drewN ?_ _ | refine blk_drew ?_ | refine blk_alloc ?_ _)); exact BK138.out⟩, ⟨by repeat (first | (with_reducible first | exact HB.out | apply below_alloc | apply pw_below_drewN | apply below_drew1 | refine below_set ?_ GE137.out | refine below_set ?_ GE138.out) | exact HB.out)⟩⟩
  case round =>
    clear H'
    try clear p2
    try clear c4
    try clear hcz5_0
    try clear hcz5_1
    try clear hcz5_2
    try clear hcz5_3
    try clear hcz5_4
    try clear hfz5_0
    try clear hfz5_1
    try clear hfz5_2
    try clear hfz5_3
    try clear hfz5_4
    obtain ⟨x4_1, x139003_1, x139004_1, u139003, u139004, rfl, HA, HK1, HO_0, HO_139003, HO_139004, BK137, BK138, HB⟩ := hrel
    cases gk with
    | zero => exact absurd HA.out (by simp [tree_Map.l0])
    | succ k1 =>
      have H := HA.out
      clear HA
      simp only [tree_Map.l0] at H
      by_cases c6 : (wrap64 (x4_1 + 1)) < (l0.length : Int)
      · rw [if_pos c6] at H
        have c6b0 : decide ((wrap64 (x4_1 + 1)) < (l0.length : Int)) = true := decide_eq_true c6
        clear c6
        by_cases c7 : 0 ≤ x4_1
        · rw [if_pos c7] at H
          have c7b0 : decide (0 ≤ x4_1) = true := decide_eq_true c7
          clear c7
          by_cases c8 : x4_1 < (l0.length : Int)
          · rw [if_pos c8] at H
            have c8b0 : decide (x4_1 < (l0.length : Int)) = true := decide_eq_true c8
            clear c8
            by_cases c9 : x139003_1.length < 8796093022208
            · rw [if_pos c9] at H
              have LMc9 := Aside0.mk c9
              clear c9
              obtain ⟨y140, hy140⟩ : ∃ y_ : List ByteArray, y_ = (x139003_1 ++ [(rd_T25 l0 x4_1).f2]) := ⟨_, rfl⟩
              replace H : (if 0 ≤ (wrap64 (x4_1 + 1)) then (if x139004_1.length < 1759218604441 then (tree_Map.l0 k1 l0 (wrap64 (x4_1 + 2)) 6 0 (⟨#[]⟩ : ByteArray) y140 (x139004_1 ++ [(⟨(rd_T25 l0 (wrap64 (x4_1 + 1))).f0, (rd_T25 l0 (wrap64 (x4_1 + 1))).f1, (rd_T25 l0 (wrap64 (x4_1 + 1))).f2, (rd_T25 l0 (wrap64 (x4_1 + 1))).f3, (rd_T25 l0 (wrap64 (x4_1 + 1))).f4⟩ : S25)])) else (none)) else (none)) = some (r1, r2, r3, r4, r5) := by first | (rw [hy140]; with_reducible exact H) | (have H2_ := (Option.bind_some _ _).symm.trans H; rw [hy140]; with_reducible exact H2_) | (have H2_ := (Option.bind_some _ _).symm.trans H; with_reducible exact H2_) | with_reducible exact H | (rw [hy140]; exact H) | exact H
              have Ny140 := Aside0.mk hy140
              clear hy140
              obtain ⟨ji10, hji10⟩ : ∃ j_ : Int, (wrap64 (x4_1 + 1)) = j_ := ⟨_, rfl⟩
              replace H : (if 0 ≤ (ji10) then (if x139004_1.length < 1759218604441 then (tree_Map.l0 k1 l0 (wrap64 (x4_1 + 2)) 6 0 (⟨#[]⟩ : ByteArray) y140 (x139004_1 ++ [(⟨(rd_T25 l0 (ji10)).f0, (rd_T25 l0 (ji10)).f1, (rd_T25 l0 (ji10)).f2, (rd_T25 l0 (ji10)).f3, (rd_T25 l0 (ji10)).f4⟩ : S25)])) else (none)) else (none)) = some (r1, r2, r3, r4, r5) := by first | (rw [hji10] at H; exact H) | (simp only [hji10] at H ⊢; exact H)
              (try rw [hji10] at c6b0)
              have hji10w : (IntKind.i64.wrap (x4_1 + 1)) = ji10 := (i64_w _).trans hji10
              by_cases c11 : 0 ≤ (ji10)
              · rw [if_pos c11] at H
                have c11b0 : decide (0 ≤ (ji10)) = true := decide_eq_true c11
                clear c11
                by_cases c12 : x139004_1.length < 1759218604441
                · rw [if_pos c12] at H
                  have LMc12 := Aside0.mk c12
                  clear c12
                  obtain ⟨y144, hy144⟩ : ∃ y_ : List (S25), y_ = (x139004_1 ++ [(⟨(rd_T25 l0 (ji10)).f0, (rd_T25 l0 (ji10)).f1, (rd_T25 l0 (ji10)).f2, (rd_T25 l0 (ji10)).f3, (rd_T25 l0 (ji10)).f4⟩ : S25)]) := ⟨_, rfl⟩
                  replace H : (tree_Map.l0 k1 l0 (wrap64 (x4_1 + 2)) 6 0 (⟨#[]⟩ : ByteArray) y140 y144) = some (r1, r2, r3, r4, r5) := by first | (rw [hy144]; with_reducible exact H) | (have H2_ := (Option.bind_some _ _).symm.trans H; rw [hy144]; with_reducible exact H2_) | (have H2_ := (Option.bind_some _ _).symm.trans H; with_reducible exact H2_) | with_reducible exact H | (rw [hy144]; exact H) | exact H
                  have Ny144 := Aside0.mk hy144
                  clear hy144
                  have H' := Aside0.mk H
                  clear H
                  try go_wp2
                  have n0_ := Aside0.mk (Kd.V_drew HO_0.out)
                  have n1_ := Aside0.mk (Kd.R_drew HO_139003.out)
                  have n2_ := Aside0.mk (Kd.N_drew HO_139004.out)
                  have n3_ := Aside0.mk (blk_drew BK137.out)
                  have n4_ := Aside0.mk (blk_drew BK138.out)
                  have n5_ := Aside0.mk (below_drew1 HB.out)
                  clear HO_0
                  clear HO_139003
                  clear HO_139004
                  clear BK137
                  clear BK138
                  clear HB
                  have HO_0 := n0_
                  have HO_139003 := n1_
                  have HO_139004 := n2_
                  have BK137 := n3_
                  have BK138 := n4_
                  have HB := n5_
                  clear n0_ n1_ n2_ n3_ n4_ n5_
                  have p139 : 0 ≤ (x4_1 : Int) := of_decide_eq_true (by first | (with_reducible assumption) | assumption)
                  have q139 : x4_1 < (l0.length : Int) := of_decide_eq_true (by first | (with_reducible assumption) | assumption)
                  obtain ⟨ad139, A139_3, c139_3, A139_4, c139_4, e139, hx139_0, hx139_1, hx139_2, hx139_3, hx139_4, hl139_3, hi139_3, hl139_4, hi139_4⟩ := at_T25 (Kd.V_reads' HO_0.out).2.2 x4_1 p139 q139
                  cases e139
                  obtain ⟨ce139, hce139, hMe139, hcc139⟩ := Kd.V_get HO_0.out z25 x4_1 p139 (by first | exact q139 | exact of_decide_eq_true (by first | (with_reducible assumption) | assumption) | (have e_ := (Kd.V_reads' HO_0.out).1; omega))
                  obtain ⟨ua139_3, uc139_3, ua139_4, uc139_4, rfl, ul139_3, ge139_3, ul139_4, ge139_4⟩ := k25_openF hMe139
                  have hv139_3 := hcc139 3 _ rfl
                  rw [add_field _ _ 3 (by omega)] at hv139_3
                  replace hv139_3 := Option.some.inj (hv139_3.symm.trans hx139_3)
                  injection hv139_3 with hva_ hvn_ hvc_
                  rw [hva_] at ge139_3
                  rw [hvc_] at ul139_3
                  have HL139_3 := Aside0.mk (show Kd.V Kd.string 9 _ w.heap.size _ _ ((rd_T25 l0 x4_1).f3) from Kd.V_mk ul139_3 ge139_3)
                  clear hva_ hvn_ hvc_ ge139_3 ul139_3
                  have hv139_4 := hcc139 4 _ rfl
                  rw [add_field _ _ 4 (by omega)] at hv139_4
                  replace hv139_4 := Option.some.inj (hv139_4.symm.trans hx139_4)
                  injection hv139_4 with hva_ hvn_ hvc_
                  rw [hva_] at ge139_4
                  rw [hvc_] at ul139_4
                  have HL139_4 := Aside0.mk (show Kd.V k25 25 _ w.heap.size _ _ ((rd_T25 l0 x4_1).f4) from Kd.V_mk ul139_4 ge139_4)
                  clear hva_ hvn_ hvc_ ge139_4 ul139_4
                  clear hcc139 hce139
                  have HR139_3 := Aside0.mk hi139_3
                  have HC139_3 := Aside0.mk hl139_3
                  clear hi139_3 hl139_3
                  have HR139_4 := Aside0.mk hi139_4
                  have HC139_4 := Aside0.mk hl139_4
                  clear hi139_4 hl139_4
                  replace p139 := eq_true p139
                  replace q139 := eq_true q139
                  refine start_ (n := 11) (S := fun w' => w'.cell? ⟨gb138, 0, none⟩ = some (.int .i64 6) ∧ w'.cell? ⟨gb138, 1, none⟩ = some (.int .i64 0) ∧ w'.cell? ⟨gb138, 2, none⟩ = some (.string (⟨#[]⟩ : ByteArray)) ∧ w'.cell? ⟨gb138, 3, none⟩ = some (u139003) ∧ w'.cell? ⟨gb138, 4, none⟩ = some (u139004) ∧ w'.cell? (ad139.add ((x4_1).toNat * 5)) = some (.int .i64 ((rd_T25 l0 x4_1).f0)) ∧ w'.cell? ⟨(ad139.add ((x4_1).toNat * 5)).block, (ad139.add ((x4_1).toNat * 5)).off + 1, none⟩ = some (.int .i64 ((rd_T25 l0 x4_1).f1)) ∧ w'.cell? ⟨(ad139.add ((x4_1).toNat * 5)).block, (ad139.add ((x4_1).toNat * 5)).off + 2, none⟩ = some (.string ((rd_T25 l0 x4_1).f2)) ∧ w'.cell? ⟨(ad139.add ((x4_1).toNat * 5)).block, (ad139.add ((x4_1).toNat * 5)).off + 3, none⟩ = some (.slice A139_3 ((rd_T25 l0 x4_1).f3).length c139_3) ∧ w'.cell? ⟨(ad139.add ((x4_1).toNat * 5)).block, (ad139.add ((x4_1).toNat * 5)).off + 4, none⟩ = some (.slice A139_4 ((rd_T25 l0 x4_1).f4).length c139_4)) (ds := [8, 10]) #[false, false, false, false, false, false, false, false, false, false, false] (by kernel_rfl) rfl rfl ⟨(blk_cell BK138.out 0).trans rfl, (blk_cell BK138.out 1).trans rfl, (blk_cell BK138.out 2).trans rfl, (blk_cell BK138.out 3).trans rfl, (blk_cell BK138.out 4).trans rfl, hx139_0, hx139_1, hx139_2, hx139_3, hx139_4⟩ (fun hHeld => ?_); refine with_tabW tree_Map.tab5 tree_Map.bits5 (fun HT_ HW_ => ?_)
                  generalize wr.drew = w13 at HO_0 HO_139003 HO_139004 BK137 BK138 HB HL139_3 HL139_4 HR139_3 HR139_4 hx139_0 hx139_1 hx139_2 hx139_3 hx139_4 hHeld ⊢
                  refine pure_ (i := 0) (N := some 13) (v := ?_) (a' := ?_) #[true, false, false, false, false, false, false, false, false, false, false] rfl rfl (any_of HT_.out (by kernel_rfl)) (fun _ _ _ h => h) (Or.inl ⟨by rfl, ?_⟩) ?_ ?_
                  rotate_left
                  · intro w'
                    go_simp
                    with_reducible rfl
                  rotate_left
                  · simp only [Act.put, List.setIfInBounds_toArray, List.set_cons_zero, List.set_cons_succ, i64_w, i32_w]
                    rfl
                  refine pure_ (i := 2) (N := some 15) (v := ?_) (a' := ?_) #[true, false, true, false, false, false, false, false, false, false, false] rfl rfl (any_of HT_.out (by kernel_rfl)) (fun _ _ _ h => h) (Or.inl ⟨by rfl, ?_⟩) ?_ ?_
                  rotate_left
                  · intro w'
                    go_simp
                    with_reducible rfl
                  rotate_left
                  · simp only [Act.put, List.setIfInBounds_toArray, List.set_cons_zero, List.set_cons_succ, i64_w, i32_w]
                    rfl
                  refine pure_ (i := 3) (N := some 16) (v := ?_) (a' := ?_) #[true, false, true, true, false, false, false, false, false, false, false] rfl rfl (any_of HT_.out (by kernel_rfl)) (fun _ _ _ h => h) (Or.inl ⟨by rfl, ?_⟩) ?_ ?_
                  rotate_left
                  · intro w'
                    go_simp
                    with_reducible rfl
                  rotate_left
                  · simp only [Act.put, List.setIfInBounds_toArray, List.set_cons_zero, List.set_cons_succ, i64_w, i32_w]
                    rfl
                  refine pure_ (i := 4) (N := some 17) (v := ?_) (a' := ?_) #[true, false, true, true, true, false, false, false, false, false, false] rfl rfl (any_of HT_.out (by kernel_rfl)) (fun _ _ _ h => h) (Or.inl ⟨by rfl, ?_⟩) ?_ ?_
                  rotate_left
                  · intro w'
                    go_simp
                    with_reducible rfl
                  rotate_left
                  · simp only [Act.put, List.setIfInBounds_toArray, List.set_cons_zero, List.set_cons_succ, i64_w, i32_w]
                    rfl
                  refine pure_ (i := 5) (N := some 18) (v := ?_) (a' := ?_) #[true, false, true, true, true, true, false, false, false, false, false] rfl rfl (any_of HT_.out (by kernel_rfl)) (fun _ _ _ h => h) (Or.inl ⟨by rfl, ?_⟩) ?_ ?_
                  rotate_left
                  · intro w'
                    go_simp
                    with_reducible rfl
                  rotate_left
                  · simp only [Act.put, List.setIfInBounds_toArray, List.set_cons_zero, List.set_cons_succ, i64_w, i32_w]
                    rfl
                  refine take_ (i := 1) (N := some 14) (v := ?_) (a' := ?_) #[true, true, true, true, true, true, false, false, false, false, false] rfl rfl (take_ofW HT_.out HW_.out (by kernel_rfl)) (fun _ _ _ h => h) (Or.inl ⟨by rfl, ?_⟩) hHeld ?_ ?_
                  rotate_left
                  · rintro w' ⟨s0, s1, s2, s3, s4, s5, s6, s7, s8, s9⟩
                    go_simp
                    with_reducible rfl
                  rotate_left
                  · simp only [Act.put, List.setIfInBounds_toArray, List.set_cons_zero, List.set_cons_succ, i64_w, i32_w]
                    rfl
                  refine take_ (i := 6) (N := some 19) (v := ?_) (a' := ?_) #[true, true, true, true, true, true, true, false, false, false, false] rfl rfl (take_ofW HT_.out HW_.out (by kernel_rfl)) (fun _ _ _ h => h) (Or.inl ⟨by rfl, ?_⟩) hHeld ?_ ?_
                  rotate_left
                  · rintro w' ⟨s0, s1, s2, s3, s4, s5, s6, s7, s8, s9⟩
                    go_simp
                    with_reducible rfl
                  rotate_left
                  · simp only [Act.put, List.setIfInBounds_toArray, List.set_cons_zero, List.set_cons_succ, i64_w, i32_w]
                    rfl
                  refine one_ (i := 7) (N := some 20) #[true, true, true, true, true, true, true, true, false, false, false] rfl rfl (one_of HT_.out (by kernel_rfl)) (by decide) (fun K hK => ?_)
                  refine value_ (w1 := ?_) (v := ?_) (by rfl) rfl ?_ ?_
                  rotate_left 2
                  · go_simp
                    constructor
                    · rfl
                    · rfl
                  refine hK.out _ _ ⟨(blk_cell (blk_alloc BK138.out _) 0).trans rfl, (blk_cell (blk_alloc BK138.out _) 1).trans rfl, (blk_cell (blk_alloc BK138.out _) 2).trans rfl, (blk_cell (blk_alloc BK138.out _) 3).trans rfl, (blk_cell (blk_alloc BK138.out _) 4).trans rfl, (World.cell?_alloc_lt _ _ _ (World.block_lt_of_cell? _ _ (hHeld.2.2.2.2.2.1))).trans (hHeld.2.2.2.2.2.1), (World.cell?_alloc_lt _ _ _ (World.block_lt_of_cell? _ _ (hHeld.2.2.2.2.2.2.1))).trans (hHeld.2.2.2.2.2.2.1), (World.cell?_alloc_lt _ _ _ (World.block_lt_of_cell? _ _ (hHeld.2.2.2.2.2.2.2.1))).trans (hHeld.2.2.2.2.2.2.2.1), (World.cell?_alloc_lt _ _ _ (World.block_lt_of_cell? _ _ (hHeld.2.2.2.2.2.2.2.2.1))).trans (hHeld.2.2.2.2.2.2.2.2.1), (World.cell?_alloc_lt _ _ _ (World.block_lt_of_cell? _ _ (hHeld.2.2.2.2.2.2.2.2.2))).trans (hHeld.2.2.2.2.2.2.2.2.2)⟩ (fun hHeld => ?_)
                  clear hK K
                  refine norm_ (a' := ?_) ?_ ?_
                  rotate_left
                  · show Act.put _ (some 20) _ = _
                    simp only [Act.put, List.setIfInBounds_toArray, List.set_cons_zero, List.set_cons_succ, i64_w, i32_w]
                    rfl
                  refine last_ (i := 8) (N := some 21) #[true, true, true, true, true, true, true, true, true, false, false] rfl rfl (one_of HT_.out (by kernel_rfl)) (by decide) (fun K hK => ?_)
                  refine Kd.R_append_step Kd.string (w0 := w) w.heap.size (by rfl) (.tmp 14) (.tmp 20) 22 9 (.string ⟨#[]⟩) 16 rfl Try.underlying22 info9 rfl (by decide) (by omega) u139003 x139003_1 ((rd_T25 l0 x4_1).f2) [.string ((rd_T25 l0 x4_1).f2)] (fun k_ => (w.heap.size ≤ k_)) (fun _ => False) rfl rfl ?aP (fun _ hk => hk.elim) ?aF ?aO ?aB ?aS ?aL ?_
                  (case aP => exact rfl)
                  (case aB => exact (by repeat (first | (with_reducible first | exact HB.out | apply below_alloc | apply pw_below_drewN | apply below_drew1 | refine below_set ?_ GE137.out | refine below_set ?_ GE138.out) | exact HB.out)))
                  (case aF => exact (fun k_ hk => (Nat.le_trans (below_size (by repeat (first | (with_reducible first | exact HB.out | apply below_alloc | apply pw_below_drewN | apply below_drew1 | refine below_set ?_ GE137.out | refine below_set ?_ GE138.out) | exact HB.out))) hk)))
                  (case aO => exact (by (with_reducible repeat (first | apply Kd.R_alloc | apply Kd.R_drewN | apply Kd.R_drew)); exact HO_139003.out))
                  (case aS => exact (below_size (by repeat (first | (with_reducible first | exact HB.out | apply below_alloc | apply pw_below_drewN | apply below_drew1 | refine below_set ?_ GE137.out | refine below_set ?_ GE138.out) | exact HB.out))))
                  (case aL => have := LMc9.out; omega)
                  intro v141 w14 ho hb hg hat
                  rw [← Ny140.out] at ho
                  have n0_ := Aside0.mk (Kd.V_afterv (ok := (fun k_ => (P0_ k_ ∨ w.heap.size ≤ k_) ∧ some k_ ≠ (u139004 : Value).ownBlock ∧ k_ ≠ gb137 ∧ k_ ≠ gb138)) (by (with_reducible repeat (first | apply Kd.V_alloc | apply Kd.V_drewN | apply Kd.V_drew)); exact Kd.V_mono HO_0.out (fun _ hk => ⟨⟨hk.1, ⟨hk.2.2.1, ⟨hk.2.2.2.1, hk.2.2.2.2⟩⟩⟩, hk.2.1⟩)) hg hat)
                  have n1_ := Aside0.mk (Kd.N_afterv (ok := (fun k_ => (P0_ k_ ∨ w.heap.size ≤ k_) ∧ k_ ≠ gb137 ∧ k_ ≠ gb138)) (by (with_reducible repeat (first | apply Kd.N_alloc | apply Kd.N_drewN | apply Kd.N_drew)); exact Kd.N_mono HO_139004.out (fun _ hk => ⟨⟨hk.1, ⟨hk.2.2.1, hk.2.2.2⟩⟩, hk.2.1⟩)) hg hat)
                  have n2_ := Aside0.mk (blk_grown (g := gb137) (o := .cells #[.int .i64 0, .int .i64 0, .string (⟨#[]⟩ : ByteArray), .slice none 0 0, .slice none 0 0] 25 (0, 0)) (by (with_reducible repeat (first | refine blk_drewN ?_ _ | refine blk_drew ?_ | refine blk_alloc ?_ _)); exact BK137.out) hg (Kd.R_ne HO_139003.out BK137.out (by decide)))
                  have n3_ := Aside0.mk (blk_grown (g := gb138) (o := .cells #[.int .i64 6, .int .i64 0, .string (⟨#[]⟩ : ByteArray), u139003, u139004] 25 (0, 0)) (by (with_reducible repeat (first | refine blk_drewN ?_ _ | refine blk_drew ?_ | refine blk_alloc ?_ _)); exact BK138.out) hg (Kd.R_ne HO_139003.out BK138.out (by decide)))
                  have n4_ := Aside0.mk (Kd.V_afterv (ok := (fun k_ => (P0_ k_ ∨ w.heap.size ≤ k_) ∧ some k_ ≠ (u139004 : Value).ownBlock ∧ k_ ≠ gb137 ∧ k_ ≠ gb138)) (by (with_reducible repeat (first | apply Kd.V_alloc | apply Kd.V_drewN | apply Kd.V_drew)); exact Kd.V_mono HL139_3.out (fun _ hk => ⟨⟨hk.1, ⟨hk.2.2.1, ⟨hk.2.2.2.1, hk.2.2.2.2⟩⟩⟩, hk.2.1⟩)) hg hat)
                  have n5_ := Aside0.mk (Kd.V_afterv (ok := (fun k_ => (P0_ k_ ∨ w.heap.size ≤ k_) ∧ some k_ ≠ (u139004 : Value).ownBlock ∧ k_ ≠ gb137 ∧ k_ ≠ gb138)) (by (with_reducible repeat (first | apply Kd.V_alloc | apply Kd.V_drewN | apply Kd.V_drew)); exact Kd.V_mono HL139_4.out (fun _ hk => ⟨⟨hk.1, ⟨hk.2.2.1, ⟨hk.2.2.2.1, hk.2.2.2.2⟩⟩⟩, hk.2.1⟩)) hg hat)
                  have n6_ := Aside0.mk (hb)
                  have n7_ := Aside0.mk (ho)
                  clear HO_0
                  clear HO_139004
                  clear BK137
                  clear BK138
                  clear HL139_3
                  clear HL139_4
                  clear HB
                  clear HO_139003
                  have HO_0 := n0_
                  have HO_139004 := n1_
                  have BK137 := n2_
                  have BK138 := n3_
                  have HL139_3 := n4_
                  have HL139_4 := n5_
                  have HB := n6_
                  have HO142 := n7_
                  clear n0_ n1_ n2_ n3_ n4_ n5_ n6_ n7_
                  clear ho hb hg hat
                  obtain ⟨Ao15, co15, eo15⟩ := Kd.R_slice HO142.out
                  (first | subst eo15 | (injection eo15 with f1_ f2_ f3_; have f4_ := f1_.symm; have f5_ := f3_.symm; clear f1_ f2_ f3_; subst f4_; subst f5_))
                  refine hK.out _ _ ?_
                  clear hK K
                  refine norm_ (a' := ?_) ?_ ?_
                  rotate_left
                  · show Act.put _ (some 21) _ = _
                    simp only [Act.put, List.setIfInBounds_toArray, List.set_cons_zero, List.set_cons_succ, i64_w, i32_w]
                    rfl
                  refine pure_ (i := 9) (N := some 22) (v := ?_) (a' := ?_) #[true, true, true, true, true, true, true, true, true, true, false] rfl rfl (any_of HT_.out (by kernel_rfl)) (fun _ _ _ h => h) (Or.inl ⟨by rfl, ?_⟩) ?_ ?_
                  rotate_left
                  · intro w'
                    go_simp
                    with_reducible rfl
                  rotate_left
                  · simp only [Act.put, List.setIfInBounds_toArray, List.set_cons_zero, List.set_cons_succ, i64_w, i32_w]
                    rfl
                  refine last_ (i := 10) (N := none) #[true, true, true, true, true, true, true, true, true, true, true] rfl rfl (one_of HT_.out (by kernel_rfl)) (by decide) (fun K hK => ?_)
                  have hs16 : w14.cell? ⟨gb138, 3, none⟩ = some (u139003) := (blk_cell BK138.out 3).trans rfl
                  have hfs16 := blk_frozen BK138.out 3
                  have hns16_0 := NB137_138.out
                  have hms16_0 := NB138_137.out
                  refine skip_ (w1 := ?_) (by rfl) rfl ?_ ?_
                  rotate_left
                  · go_simp
                    rfl
                  refine hK.out _ _ ?_
                  clear hK K
                  refine done_ (done_of HT_.out (by kernel_rfl)) ?_
                  try go_wp2
                  have n0_ : Aside0 (Kd.V k25 25 (w14.setCell ⟨gb138, 3, none⟩ (.slice Ao15 y140.length co15)) w.heap.size (fun k_ => (P0_ k_ ∨ w.heap.size ≤ k_) ∧ some k_ ≠ (u139004 : Value).ownBlock ∧ some k_ ≠ (.slice Ao15 y140.length co15 : Value).ownBlock ∧ k_ ≠ gb137 ∧ k_ ≠ gb138) (.slice (some ad139) l0.length c0) l0) := ⟨by (with_reducible repeat (first | apply Kd.V_alloc | apply Kd.V_drewN | apply Kd.V_drew)); exact Kd.V_mono (Kd.V_far (p := ⟨gb138, 3, none⟩) (Kd.V_mono HO_0.out (fun k_ hk => (⟨hk, hk.1.2.2.2⟩ : _ ∧ k_ ≠ gb138))) (fun _ hk => hk.2) (.slice Ao15 y140.length co15)) (fun _ hk => ⟨hk.1.1.1, ⟨hk.1.1.2.1, ⟨hk.1.2, ⟨hk.1.1.2.2.1, hk.1.1.2.2.2⟩⟩⟩⟩)⟩
                  have n1_ : Aside0 (Kd.N k25 25 (w14.setCell ⟨gb138, 3, none⟩ (.slice Ao15 y140.length co15)) w.heap.size (fun k_ => (P0_ k_ ∨ w.heap.size ≤ k_) ∧ some k_ ≠ (.slice Ao15 y140.length co15 : Value).ownBlock ∧ k_ ≠ gb137 ∧ k_ ≠ gb138) u139004 x139004_1) := ⟨by (with_reducible repeat (first | apply Kd.N_alloc | apply Kd.N_drewN | apply Kd.N_drew)); exact Kd.N_mono (Kd.N_far (p := ⟨gb138, 3, none⟩) (Kd.N_mono HO_139004.out (fun k_ hk => (⟨hk, hk.1.2.2⟩ : _ ∧ k_ ≠ gb138))) (fun _ hk => hk.2) (.slice Ao15 y140.length co15)) (fun _ hk => ⟨hk.1.1.1, ⟨hk.1.2, ⟨hk.1.1.2.1, hk.1.1.2.2⟩⟩⟩)⟩
                  have n2_ : Aside0 (Kd.V Kd.string 9 (w14.setCell ⟨gb138, 3, none⟩ (.slice Ao15 y140.length co15)) w.heap.size (fun k_ => (P0_ k_ ∨ w.heap.size ≤ k_) ∧ some k_ ≠ (u139004 : Value).ownBlock ∧ some k_ ≠ (.slice Ao15 y140.length co15 : Value).ownBlock ∧ k_ ≠ gb137 ∧ k_ ≠ gb138) (.slice A139_3 ((rd_T25 l0 x4_1).f3).length c139_3) ((rd_T25 l0 x4_1).f3)) := ⟨by (with_reducible repeat (first | apply Kd.V_alloc | apply Kd.V_drewN | apply Kd.V_drew)); exact Kd.V_mono (Kd.V_far (p := ⟨gb138, 3, none⟩) (Kd.V_mono HL139_3.out (fun k_ hk => (⟨hk, hk.1.2.2.2⟩ : _ ∧ k_ ≠ gb138))) (fun _ hk => hk.2) (.slice Ao15 y140.length co15)) (fun _ hk => ⟨hk.1.1.1, ⟨hk.1.1.2.1, ⟨hk.1.2, ⟨hk.1.1.2.2.1, hk.1.1.2.2.2⟩⟩⟩⟩)⟩
                  have n3_ : Aside0 (Kd.V k25 25 (w14.setCell ⟨gb138, 3, none⟩ (.slice Ao15 y140.length co15)) w.heap.size (fun k_ => (P0_ k_ ∨ w.heap.size ≤ k_) ∧ some k_ ≠ (u139004 : Value).ownBlock ∧ some k_ ≠ (.slice Ao15 y140.length co15 : Value).ownBlock ∧ k_ ≠ gb137 ∧ k_ ≠ gb138) (.slice A139_4 ((rd_T25 l0 x4_1).f4).length c139_4) ((rd_T25 l0 x4_1).f4)) := ⟨by (with_reducible repeat (first | apply Kd.V_alloc | apply Kd.V_drewN | apply Kd.V_drew)); exact Kd.V_mono (Kd.V_far (p := ⟨gb138, 3, none⟩) (Kd.V_mono HL139_4.out (fun k_ hk => (⟨hk, hk.1.2.2.2⟩ : _ ∧ k_ ≠ gb138))) (fun _ hk => hk.2) (.slice Ao15 y140.length co15)) (fun _ hk => ⟨hk.1.1.1, ⟨hk.1.1.2.1, ⟨hk.1.2, ⟨hk.1.1.2.2.1, hk.1.1.2.2.2⟩⟩⟩⟩)⟩
                  have n4_ : Aside0 (Kd.R Kd.string 9 (w14.setCell ⟨gb138, 3, none⟩ (.slice Ao15 y140.length co15)) w.heap.size (fun k_ => (w.heap.size ≤ k_)) (.slice Ao15 y140.length co15) y140) := ⟨by (with_reducible repeat (first | apply Kd.R_alloc | apply Kd.R_drewN | apply Kd.R_drew)); exact Kd.R_mono (Kd.R_far (p := ⟨gb138, 3, none⟩) (Kd.R_types HO142.out BK138.out (by decide)) (fun _ hk => hk.2) (.slice Ao15 y140.length co15)) (fun _ hk => hk.1)⟩
                  have n5_ : Aside0 ((w14.setCell ⟨gb138, 3, none⟩ (.slice Ao15 y140.length co15)).heap[gb137]? = some (.cells #[.int .i64 0, .int .i64 0, .string (⟨#[]⟩ : ByteArray), .slice none 0 0, .slice none 0 0] 25 (0, 0))) := ⟨by (with_reducible repeat (first | refine blk_drewN ?_ _ | refine blk_drew ?_ | refine blk_alloc ?_ _)); refine blk_far ?_ NB137_138.out _; (with_reducible repeat (first | refine blk_drewN ?_ _ | refine blk_drew ?_ | refine blk_alloc ?_ _)); exact BK137.out⟩
                  have n6_ : Aside0 ((w14.setCell ⟨gb138, 3, none⟩ (.slice Ao15 y140.length co15)).heap[gb138]? = some (.cells #[.int .i64 6, .int .i64 0, .string (⟨#[]⟩ : ByteArray), .slice Ao15 y140.length co15, u139004] 25 (0, 0))) := ⟨by (with_reducible repeat (first | refine blk_drewN ?_ _ | refine blk_drew ?_ | refine blk_alloc ?_ _)); refine blk_put (cs := #[.int .i64 6, .int .i64 0, .string (⟨#[]⟩ : ByteArray), u139003, u139004]) ?_ 3 _ rfl; (with_reducible repeat (first | refine blk_drewN ?_ _ | refine blk_drew ?_ | refine blk_alloc ?_ _)); exact BK138.out⟩
                  have n7_ : Aside0 (Below w.heap.size w (w14.setCell ⟨gb138, 3, none⟩ (.slice Ao15 y140.length co15))) := ⟨by repeat (first | (with_reducible first | exact HB.out | apply below_alloc | apply pw_below_drewN | apply below_drew1 | refine below_set ?_ GE137.out | refine below_set ?_ GE138.out) | exact HB.out)⟩
                  (try clear HO_0)
                  (try clear HO_139004)
                  (try clear HL139_3)
                  (try clear HL139_4)
                  (try clear HO142)
                  (try clear BK137)
                  (try clear BK138)
                  (try clear HB)
                  generalize (w14.setCell ⟨gb138, 3, none⟩ (.slice Ao15 y140.length co15)) = w17 at n0_ n1_ n2_ n3_ n4_ n5_ n6_ n7_ ⊢
                  have HO_0 := n0_
                  have HO_139004 := n1_
                  have HL139_3 := n2_
                  have HL139_4 := n3_
                  have HO142 := n4_
                  have BK137 := n5_
                  have BK138 := n6_
                  have HB := n7_
                  clear n0_ n1_ n2_ n3_ n4_ n5_ n6_ n7_
                  have n0_ := Aside0.mk (Kd.V_drew HO_0.out)
                  have n1_ := Aside0.mk (Kd.N_drew HO_139004.out)
                  have n2_ := Aside0.mk (Kd.V_drew HL139_3.out)
                  have n3_ := Aside0.mk (Kd.V_drew HL139_4.out)
                  have n4_ := Aside0.mk (Kd.R_drew HO142.out)
                  have n5_ := Aside0.mk (blk_drew BK137.out)
                  have n6_ := Aside0.mk (blk_drew BK138.out)
                  have n7_ := Aside0.mk (below_drew1 HB.out)
                  clear HO_0
                  clear HO_139004
                  clear HL139_3
                  clear HL139_4
                  clear HO142
                  clear BK137
                  clear BK138
                  clear HB
                  have HO_0 := n0_
                  have HO_139004 := n1_
                  have HL139_3 := n2_
                  have HL139_4 := n3_
                  have HO142 := n4_
                  have BK137 := n5_
                  have BK138 := n6_
                  have HB := n7_
                  clear n0_ n1_ n2_ n3_ n4_ n5_ n6_ n7_
                  have p143 : 0 ≤ ((ji10) : Int) := of_decide_eq_true (by first | (with_reducible assumption) | assumption)
                  have q143 : (ji10) < (l0.length : Int) := of_decide_eq_true (by first | (with_reducible assumption) | assumption)
                  obtain ⟨ad143, A143_3, c143_3, A143_4, c143_4, e143, hx143_0, hx143_1, hx143_2, hx143_3, hx143_4, hl143_3, hi143_3, hl143_4, hi143_4⟩ := at_T25 (Kd.V_reads' HO_0.out).2.2 (ji10) p143 q143
                  obtain rfl : ad139 = ad143 := (by injection e143)
                  obtain ⟨ce143, hce143, hMe143, hcc143⟩ := Kd.V_get HO_0.out z25 (ji10) p143 (by first | exact q143 | exact of_decide_eq_true (by first | (with_reducible assumption) | assumption) | (have e_ := (Kd.V_reads' HO_0.out).1; omega))
                  obtain ⟨ua143_3, uc143_3, ua143_4, uc143_4, rfl, ul143_3, ge143_3, ul143_4, ge143_4⟩ := k25_openF hMe143
                  have hv143_3 := hcc143 3 _ rfl
                  rw [add_field _ _ 3 (by omega)] at hv143_3
                  replace hv143_3 := Option.some.inj (hv143_3.symm.trans hx143_3)
                  injection hv143_3 with hva_ hvn_ hvc_
                  rw [hva_] at ge143_3
                  rw [hvc_] at ul143_3
                  have HL143_3 := Aside0.mk (show Kd.V Kd.string 9 _ w.heap.size _ _ ((rd_T25 l0 (ji10)).f3) from Kd.V_mk ul143_3 ge143_3)
                  clear hva_ hvn_ hvc_ ge143_3 ul143_3
                  have hv143_4 := hcc143 4 _ rfl
                  rw [add_field _ _ 4 (by omega)] at hv143_4
                  replace hv143_4 := Option.some.inj (hv143_4.symm.trans hx143_4)
                  injection hv143_4 with hva_ hvn_ hvc_
                  rw [hva_] at ge143_4
                  rw [hvc_] at ul143_4
                  have HL143_4 := Aside0.mk (show Kd.V k25 25 _ w.heap.size _ _ ((rd_T25 l0 (ji10)).f4) from Kd.V_mk ul143_4 ge143_4)
                  clear hva_ hvn_ hvc_ ge143_4 ul143_4
                  clear hcc143 hce143
                  have HR143_3 := Aside0.mk hi143_3
                  have HC143_3 := Aside0.mk hl143_3
                  clear hi143_3 hl143_3
                  have HR143_4 := Aside0.mk hi143_4
                  have HC143_4 := Aside0.mk hl143_4
                  clear hi143_4 hl143_4
                  replace p143 := eq_true p143
                  replace q143 := eq_true q143
                  refine start_ (n := 11) (S := fun w' => w'.cell? ⟨gb138, 0, none⟩ = some (.int .i64 6) ∧ w'.cell? ⟨gb138, 1, none⟩ = some (.int .i64 0) ∧ w'.cell? ⟨gb138, 2, none⟩ = some (.string (⟨#[]⟩ : ByteArray)) ∧ w'.cell? ⟨gb138, 3, none⟩ = some (.slice Ao15 y140.length co15) ∧ w'.cell? ⟨gb138, 4, none⟩ = some (u139004) ∧ w'.cell? (ad139.add (((ji10)).toNat * 5)) = some (.int .i64 ((rd_T25 l0 (ji10)).f0)) ∧ w'.cell? ⟨(ad139.add (((ji10)).toNat * 5)).block, (ad139.add (((ji10)).toNat * 5)).off + 1, none⟩ = some (.int .i64 ((rd_T25 l0 (ji10)).f1)) ∧ w'.cell? ⟨(ad139.add (((ji10)).toNat * 5)).block, (ad139.add (((ji10)).toNat * 5)).off + 2, none⟩ = some (.string ((rd_T25 l0 (ji10)).f2)) ∧ w'.cell? ⟨(ad139.add (((ji10)).toNat * 5)).block, (ad139.add (((ji10)).toNat * 5)).off + 3, none⟩ = some (.slice A143_3 ((rd_T25 l0 (ji10)).f3).length c143_3) ∧ w'.cell? ⟨(ad139.add (((ji10)).toNat * 5)).block, (ad139.add (((ji10)).toNat * 5)).off + 4, none⟩ = some (.slice A143_4 ((rd_T25 l0 (ji10)).f4).length c143_4)) (ds := [8, 10]) #[false, false, false, false, false, false, false, false, false, false, false] (by kernel_rfl) rfl rfl ⟨(blk_cell BK138.out 0).trans rfl, (blk_cell BK138.out 1).trans rfl, (blk_cell BK138.out 2).trans rfl, (blk_cell BK138.out 3).trans rfl, (blk_cell BK138.out 4).trans rfl, hx143_0, hx143_1, hx143_2, hx143_3, hx143_4⟩ (fun hHeld => ?_); refine with_tabW tree_Map.tab6 tree_Map.bits6 (fun HT_ HW_ => ?_)
                  generalize w17.drew = w18 at HO_0 HO_139004 HL139_3 HL139_4 HO142 BK137 BK138 HB HL143_3 HL143_4 HR143_3 HR143_4 hx143_0 hx143_1 hx143_2 hx143_3 hx143_4 hHeld ⊢
                  refine pure_ (i := 0) (N := some 23) (v := ?_) (a' := ?_) #[true, false, false, false, false, false, false, false, false, false, false] rfl rfl (any_of HT_.out (by kernel_rfl)) (fun _ _ _ h => h) (Or.inl ⟨by rfl, ?_⟩) ?_ ?_
                  rotate_left
                  · intro w'
                    go_simp
                    with_reducible rfl
                  rotate_left
                  · simp only [Act.put, List.setIfInBounds_toArray, List.set_cons_zero, List.set_cons_succ, i64_w, i32_w]
                    rfl
                  refine pure_ (i := 2) (N := some 25) (v := ?_) (a' := ?_) #[true, false, true, false, false, false, false, false, false, false, false] rfl rfl (any_of HT_.out (by kernel_rfl)) (fun _ _ _ h => h) (Or.inl ⟨by rfl, ?_⟩) ?_ ?_
                  rotate_left
                  · intro w'
                    go_simp
                    with_reducible rfl
                  rotate_left
                  · simp only [Act.put, List.setIfInBounds_toArray, List.set_cons_zero, List.set_cons_succ, i64_w, i32_w]
                    rfl
                  refine pure_ (i := 3) (N := some 26) (v := ?_) (a' := ?_) #[true, false, true, true, false, false, false, false, false, false, false] rfl rfl (any_of HT_.out (by kernel_rfl)) (fun _ _ _ h => h) (Or.inl ⟨by rfl, ?_⟩) ?_ ?_
                  rotate_left
                  · intro w'
                    go_simp
                    with_reducible rfl
                  rotate_left
                  · simp only [Act.put, List.setIfInBounds_toArray, List.set_cons_zero, List.set_cons_succ, i64_w, i32_w]
                    rfl
                  refine pure_ (i := 4) (N := some 27) (v := ?_) (a' := ?_) #[true, false, true, true, true, false, false, false, false, false, false] rfl rfl (any_of HT_.out (by kernel_rfl)) (fun _ _ _ h => h) (Or.inl ⟨by rfl, ?_⟩) ?_ ?_
                  rotate_left
                  · intro w'
                    go_simp
                    with_reducible rfl
                  rotate_left
                  · simp only [Act.put, List.setIfInBounds_toArray, List.set_cons_zero, List.set_cons_succ, i64_w, i32_w]
                    rfl
                  refine pure_ (i := 5) (N := some 28) (v := ?_) (a' := ?_) #[true, false, true, true, true, true, false, false, false, false, false] rfl rfl (any_of HT_.out (by kernel_rfl)) (fun _ _ _ h => h) (Or.inl ⟨by rfl, ?_⟩) ?_ ?_
                  rotate_left
                  · intro w'
                    go_simp
                    with_reducible rfl
                  rotate_left
                  · simp only [Act.put, List.setIfInBounds_toArray, List.set_cons_zero, List.set_cons_succ, i64_w, i32_w]
                    rfl
                  refine take_ (i := 1) (N := some 24) (v := ?_) (a' := ?_) #[true, true, true, true, true, true, false, false, false, false, false] rfl rfl (take_ofW HT_.out HW_.out (by kernel_rfl)) (fun _ _ _ h => h) (Or.inl ⟨by rfl, ?_⟩) hHeld ?_ ?_
                  rotate_left
                  · rintro w' ⟨s0, s1, s2, s3, s4, s5, s6, s7, s8, s9⟩
                    go_simp
                    with_reducible rfl
                  rotate_left
                  · simp only [Act.put, List.setIfInBounds_toArray, List.set_cons_zero, List.set_cons_succ, i64_w, i32_w]
                    rfl
                  refine take_ (i := 6) (N := some 29) (v := ?_) (a' := ?_) #[true, true, true, true, true, true, true, false, false, false, false] rfl rfl (take_ofW HT_.out HW_.out (by kernel_rfl)) (fun _ _ _ h => h) (Or.inl ⟨by rfl, ?_⟩) hHeld ?_ ?_
                  rotate_left
                  · rintro w' ⟨s0, s1, s2, s3, s4, s5, s6, s7, s8, s9⟩
                    go_simp
                    with_reducible rfl
                  rotate_left
                  · simp only [Act.put, List.setIfInBounds_toArray, List.set_cons_zero, List.set_cons_succ, i64_w, i32_w]
                    rfl
                  refine one_ (i := 7) (N := some 30) #[true, true, true, true, true, true, true, true, false, false, false] rfl rfl (one_of HT_.out (by kernel_rfl)) (by decide) (fun K hK => ?_)
                  refine value_ (w1 := ?_) (v := ?_) (by rfl) rfl ?_ ?_
                  rotate_left 2
                  · go_simp
                    constructor
                    · rfl
                    · rfl
                  refine hK.out _ _ ⟨(blk_cell (blk_alloc BK138.out _) 0).trans rfl, (blk_cell (blk_alloc BK138.out _) 1).trans rfl, (blk_cell (blk_alloc BK138.out _) 2).trans rfl, (blk_cell (blk_alloc BK138.out _) 3).trans rfl, (blk_cell (blk_alloc BK138.out _) 4).trans rfl, (World.cell?_alloc_lt _ _ _ (World.block_lt_of_cell? _ _ (hHeld.2.2.2.2.2.1))).trans (hHeld.2.2.2.2.2.1), (World.cell?_alloc_lt _ _ _ (World.block_lt_of_cell? _ _ (hHeld.2.2.2.2.2.2.1))).trans (hHeld.2.2.2.2.2.2.1), (World.cell?_alloc_lt _ _ _ (World.block_lt_of_cell? _ _ (hHeld.2.2.2.2.2.2.2.1))).trans (hHeld.2.2.2.2.2.2.2.1), (World.cell?_alloc_lt _ _ _ (World.block_lt_of_cell? _ _ (hHeld.2.2.2.2.2.2.2.2.1))).trans (hHeld.2.2.2.2.2.2.2.2.1), (World.cell?_alloc_lt _ _ _ (World.block_lt_of_cell? _ _ (hHeld.2.2.2.2.2.2.2.2.2))).trans (hHeld.2.2.2.2.2.2.2.2.2)⟩ (fun hHeld => ?_)
                  clear hK K
                  refine norm_ (a' := ?_) ?_ ?_
                  rotate_left
                  · show Act.put _ (some 30) _ = _
                    simp only [Act.put, List.setIfInBounds_toArray, List.set_cons_zero, List.set_cons_succ, i64_w, i32_w]
                    rfl
                  refine last_ (i := 8) (N := some 31) #[true, true, true, true, true, true, true, true, true, false, false] rfl rfl (one_of HT_.out (by kernel_rfl)) (by decide) (fun K hK => ?_)
                  refine Kd.N_append_step k25 (w0 := w) w.heap.size (by rfl) (.tmp 24) (.tmp 30) 23 25 (.agg #[(.int .i64 0), (.int .i64 0), (.string ⟨#[]⟩), (.slice none 0 0), (.slice none 0 0)]) 80 rfl Try.underlying23 info25 rfl (by decide) (by omega) u139004 x139004_1 (⟨(rd_T25 l0 (ji10)).f0, (rd_T25 l0 (ji10)).f1, (rd_T25 l0 (ji10)).f2, (rd_T25 l0 (ji10)).f3, (rd_T25 l0 (ji10)).f4⟩ : S25) [.int .i64 ((rd_T25 l0 (ji10)).f0), .int .i64 ((rd_T25 l0 (ji10)).f1), .string ((rd_T25 l0 (ji10)).f2), .slice A143_3 ((rd_T25 l0 (ji10)).f3).length c143_3, .slice A143_4 ((rd_T25 l0 (ji10)).f4).length c143_4] (fun k_ => (P0_ k_ ∨ w.heap.size ≤ k_) ∧ some k_ ≠ (.slice Ao15 y140.length co15 : Value).ownBlock ∧ k_ ≠ gb137 ∧ k_ ≠ gb138) (fun k_ => ((fun k_ => (P0_ k_ ∨ w.heap.size ≤ k_) ∧ some k_ ≠ (.slice Ao15 y140.length co15 : Value).ownBlock ∧ k_ ≠ gb137 ∧ k_ ≠ gb138)) k_ ∧ some k_ ≠ (u139004 : Value).ownBlock) rfl rfl ?aP (fun _ hk => hk) ?aF ?aO ?aB ?aS ?aL ?_
                  (case aP => exact (k25_mkF _ _ (⟨(rd_T25 l0 (ji10)).f0, (rd_T25 l0 (ji10)).f1, (rd_T25 l0 (ji10)).f2, (rd_T25 l0 (ji10)).f3, (rd_T25 l0 (ji10)).f4⟩ : S25) (Kd.V_reads' (Kd.V_mono (ok' := (fun k_ => ((fun k_ => (P0_ k_ ∨ w.heap.size ≤ k_) ∧ some k_ ≠ (.slice Ao15 y140.length co15 : Value).ownBlock ∧ k_ ≠ gb137 ∧ k_ ≠ gb138)) k_ ∧ some k_ ≠ (u139004 : Value).ownBlock)) (HL143_3.out) (fun k_ hk => ⟨⟨hk.1, ⟨hk.2.2.1, ⟨hk.2.2.2.1, hk.2.2.2.2⟩⟩⟩, hk.2.1⟩))).2.1 (Kd.V_F (Kd.V_mono (ok' := (fun k_ => ((fun k_ => (P0_ k_ ∨ w.heap.size ≤ k_) ∧ some k_ ≠ (.slice Ao15 y140.length co15 : Value).ownBlock ∧ k_ ≠ gb137 ∧ k_ ≠ gb138)) k_ ∧ some k_ ≠ (u139004 : Value).ownBlock)) (HL143_3.out) (fun k_ hk => ⟨⟨hk.1, ⟨hk.2.2.1, ⟨hk.2.2.2.1, hk.2.2.2.2⟩⟩⟩, hk.2.1⟩))) (Kd.V_reads' (Kd.V_mono (ok' := (fun k_ => ((fun k_ => (P0_ k_ ∨ w.heap.size ≤ k_) ∧ some k_ ≠ (.slice Ao15 y140.length co15 : Value).ownBlock ∧ k_ ≠ gb137 ∧ k_ ≠ gb138)) k_ ∧ some k_ ≠ (u139004 : Value).ownBlock)) (HL143_4.out) (fun k_ hk => ⟨⟨hk.1, ⟨hk.2.2.1, ⟨hk.2.2.2.1, hk.2.2.2.2⟩⟩⟩, hk.2.1⟩))).2.1 (Kd.V_F (Kd.V_mono (ok' := (fun k_ => ((fun k_ => (P0_ k_ ∨ w.heap.size ≤ k_) ∧ some k_ ≠ (.slice Ao15 y140.length co15 : Value).ownBlock ∧ k_ ≠ gb137 ∧ k_ ≠ gb138)) k_ ∧ some k_ ≠ (u139004 : Value).ownBlock)) (HL143_4.out) (fun k_ hk => ⟨⟨hk.1, ⟨hk.2.2.1, ⟨hk.2.2.2.1, hk.2.2.2.2⟩⟩⟩, hk.2.1⟩)))))
                  (case aB => exact (by repeat (first | (with_reducible first | exact HB.out | apply below_alloc | apply pw_below_drewN | apply below_drew1 | refine below_set ?_ GE137.out | refine below_set ?_ GE138.out) | exact HB.out)))
                  (case aF => exact (fun k_ hk => ⟨(.inr (Nat.le_trans (below_size (by repeat (first | (with_reducible first | exact HB.out | apply below_alloc | apply pw_below_drewN | apply below_drew1 | refine below_set ?_ GE137.out | refine below_set ?_ GE138.out) | exact HB.out))) hk)), Kd.fresh' (Kd.R_lt (by (with_reducible repeat (first | apply Kd.R_alloc | apply Kd.R_drewN | apply Kd.R_drew)); exact HO142.out)) k_ hk, Kd.freshB (g := gb137) (o := .cells #[.int .i64 0, .int .i64 0, .string (⟨#[]⟩ : ByteArray), .slice none 0 0, .slice none 0 0] 25 (0, 0)) (by (with_reducible repeat (first | refine blk_drewN ?_ _ | refine blk_drew ?_ | refine blk_alloc ?_ _)); exact BK137.out) k_ hk, Kd.freshB (g := gb138) (o := .cells #[.int .i64 6, .int .i64 0, .string (⟨#[]⟩ : ByteArray), .slice Ao15 y140.length co15, u139004] 25 (0, 0)) (by (with_reducible repeat (first | refine blk_drewN ?_ _ | refine blk_drew ?_ | refine blk_alloc ?_ _)); exact BK138.out) k_ hk⟩))
                  (case aO => exact (by (with_reducible repeat (first | apply Kd.N_alloc | apply Kd.N_drewN | apply Kd.N_drew)); exact HO_139004.out))
                  (case aS => exact (below_size (by repeat (first | (with_reducible first | exact HB.out | apply below_alloc | apply pw_below_drewN | apply below_drew1 | refine below_set ?_ GE137.out | refine below_set ?_ GE138.out) | exact HB.out))))
                  (case aL => have := LMc12.out; omega)
                  intro v145 w19 ho hb hg hat
                  rw [← Ny144.out] at ho
                  have n0_ := Aside0.mk (Kd.V_afterv (ok := (fun k_ => (P0_ k_ ∨ w.heap.size ≤ k_) ∧ some k_ ≠ (.slice Ao15 y140.length co15 : Value).ownBlock ∧ k_ ≠ gb137 ∧ k_ ≠ gb138)) (by (with_reducible repeat (first | apply Kd.V_alloc | apply Kd.V_drewN | apply Kd.V_drew)); exact Kd.V_mono HO_0.out (fun _ hk => ⟨⟨hk.1, ⟨hk.2.2.1, ⟨hk.2.2.2.1, hk.2.2.2.2⟩⟩⟩, hk.2.1⟩)) hg hat)
                  have n1_ := Aside0.mk (blk_grown (g := gb137) (o := .cells #[.int .i64 0, .int .i64 0, .string (⟨#[]⟩ : ByteArray), .slice none 0 0, .slice none 0 0] 25 (0, 0)) (by (with_reducible repeat (first | refine blk_drewN ?_ _ | refine blk_drew ?_ | refine blk_alloc ?_ _)); exact BK137.out) hg (Kd.N_away HO_139004.out (fun _ hk => hk.2.2.1)))
                  have n2_ := Aside0.mk (blk_grown (g := gb138) (o := .cells #[.int .i64 6, .int .i64 0, .string (⟨#[]⟩ : ByteArray), .slice Ao15 y140.length co15, u139004] 25 (0, 0)) (by (with_reducible repeat (first | refine blk_drewN ?_ _ | refine blk_drew ?_ | refine blk_alloc ?_ _)); exact BK138.out) hg (Kd.N_away HO_139004.out (fun _ hk => hk.2.2.2)))
                  have n3_ := Aside0.mk (Kd.V_afterv (ok := (fun k_ => (P0_ k_ ∨ w.heap.size ≤ k_) ∧ some k_ ≠ (.slice Ao15 y140.length co15 : Value).ownBlock ∧ k_ ≠ gb137 ∧ k_ ≠ gb138)) (by (with_reducible repeat (first | apply Kd.V_alloc | apply Kd.V_drewN | apply Kd.V_drew)); exact Kd.V_mono HL139_3.out (fun _ hk => ⟨⟨hk.1, ⟨hk.2.2.1, ⟨hk.2.2.2.1, hk.2.2.2.2⟩⟩⟩, hk.2.1⟩)) hg hat)
                  have n4_ := Aside0.mk (Kd.V_afterv (ok := (fun k_ => (P0_ k_ ∨ w.heap.size ≤ k_) ∧ some k_ ≠ (.slice Ao15 y140.length co15 : Value).ownBlock ∧ k_ ≠ gb137 ∧ k_ ≠ gb138)) (by (with_reducible repeat (first | apply Kd.V_alloc | apply Kd.V_drewN | apply Kd.V_drew)); exact Kd.V_mono HL139_4.out (fun _ hk => ⟨⟨hk.1, ⟨hk.2.2.1, ⟨hk.2.2.2.1, hk.2.2.2.2⟩⟩⟩, hk.2.1⟩)) hg hat)
                  have n5_ := Aside0.mk (Kd.R_over' (by (with_reducible repeat (first | apply Kd.R_alloc | apply Kd.R_drewN | apply Kd.R_drew)); exact HO142.out) (Kd.N_typed (by (with_reducible repeat (first | apply Kd.N_alloc | apply Kd.N_drewN | apply Kd.N_drew)); exact HO_139004.out)) (by decide) hg)
                  have n6_ := Aside0.mk (Kd.V_afterv (ok := (fun k_ => (P0_ k_ ∨ w.heap.size ≤ k_) ∧ some k_ ≠ (.slice Ao15 y140.length co15 : Value).ownBlock ∧ k_ ≠ gb137 ∧ k_ ≠ gb138)) (by (with_reducible repeat (first | apply Kd.V_alloc | apply Kd.V_drewN | apply Kd.V_drew)); exact Kd.V_mono HL143_3.out (fun _ hk => ⟨⟨hk.1, ⟨hk.2.2.1, ⟨hk.2.2.2.1, hk.2.2.2.2⟩⟩⟩, hk.2.1⟩)) hg hat)
                  have n7_ := Aside0.mk (Kd.V_afterv (ok := (fun k_ => (P0_ k_ ∨ w.heap.size ≤ k_) ∧ some k_ ≠ (.slice Ao15 y140.length co15 : Value).ownBlock ∧ k_ ≠ gb137 ∧ k_ ≠ gb138)) (by (with_reducible repeat (first | apply Kd.V_alloc | apply Kd.V_drewN | apply Kd.V_drew)); exact Kd.V_mono HL143_4.out (fun _ hk => ⟨⟨hk.1, ⟨hk.2.2.1, ⟨hk.2.2.2.1, hk.2.2.2.2⟩⟩⟩, hk.2.1⟩)) hg hat)
                  have n8_ := Aside0.mk (hb)
                  have n9_ := Aside0.mk (ho)
                  clear HO_0
                  clear BK137
                  clear BK138
                  clear HL139_3
                  clear HL139_4
                  clear HO142
                  clear HL143_3
                  clear HL143_4
                  clear HB
                  clear HO_139004
                  have HO_0 := n0_
                  have BK137 := n1_
                  have BK138 := n2_
                  have HL139_3 := n3_
                  have HL139_4 := n4_
                  have HO142 := n5_
                  have HL143_3 := n6_
                  have HL143_4 := n7_
                  have HB := n8_
                  have HO146 := n9_
                  clear n0_ n1_ n2_ n3_ n4_ n5_ n6_ n7_ n8_ n9_
                  clear ho hb hg hat
                  obtain ⟨Ao20, co20, eo20⟩ := Kd.N_slice HO146.out
                  (first | subst eo20 | (injection eo20 with f1_ f2_ f3_; have f4_ := f1_.symm; have f5_ := f3_.symm; clear f1_ f2_ f3_; subst f4_; subst f5_))
                  refine hK.out _ _ ?_
                  clear hK K
                  refine norm_ (a' := ?_) ?_ ?_
                  rotate_left
                  · show Act.put _ (some 31) _ = _
                    simp only [Act.put, List.setIfInBounds_toArray, List.set_cons_zero, List.set_cons_succ, i64_w, i32_w]
                    rfl
                  refine pure_ (i := 9) (N := some 32) (v := ?_) (a' := ?_) #[true, true, true, true, true, true, true, true, true, true, false] rfl rfl (any_of HT_.out (by kernel_rfl)) (fun _ _ _ h => h) (Or.inl ⟨by rfl, ?_⟩) ?_ ?_
                  rotate_left
                  · intro w'
                    go_simp
                    with_reducible rfl
                  rotate_left
                  · simp only [Act.put, List.setIfInBounds_toArray, List.set_cons_zero, List.set_cons_succ, i64_w, i32_w]
                    rfl
                  refine last_ (i := 10) (N := none) #[true, true, true, true, true, true, true, true, true, true, true] rfl rfl (one_of HT_.out (by kernel_rfl)) (by decide) (fun K hK => ?_)
                  have hs21 : w19.cell? ⟨gb138, 4, none⟩ = some (u139004) := (blk_cell BK138.out 4).trans rfl
                  have hfs21 := blk_frozen BK138.out 4
                  have hns21_0 := NB137_138.out
                  have hms21_0 := NB138_137.out
                  refine skip_ (w1 := ?_) (by rfl) rfl ?_ ?_
                  rotate_left
                  · go_simp
                    rfl
                  refine hK.out _ _ ?_
                  clear hK K
                  refine done_ (done_of HT_.out (by kernel_rfl)) ?_
                  try go_wp2
                  go_roundg k1
                  case measure => have := HK1.out; omega
                  case rel => exact ⟨(wrap64 (x4_1 + 2)), (y140), (y144), (.slice Ao15 y140.length co15), (.slice Ao20 y144.length co20), (by first | rfl | (simp; done) | (simp [*]; done)), (by first | with_reducible exact H' | exact H' | (subst_vars; exact H')), ⟨by have := HK1.out; omega⟩, ⟨by (with_reducible repeat (first | apply Kd.V_alloc | apply Kd.V_drewN | apply Kd.V_drew)); exact Kd.V_mono (Kd.V_far (p := ⟨gb138, 4, none⟩) (Kd.V_mono HO_0.out (fun k_ hk => (⟨hk, hk.1.2.2.2⟩ : _ ∧ k_ ≠ gb138))) (fun _ hk => hk.2) (.slice Ao20 y144.length co20)) (fun _ hk => ⟨hk.1.1.1, ⟨hk.1.1.2.1, ⟨hk.1.2, ⟨hk.1.1.2.2.1, hk.1.1.2.2.2⟩⟩⟩⟩)⟩, ⟨by (with_reducible repeat (first | apply Kd.R_alloc | apply Kd.R_drewN | apply Kd.R_drew)); exact Kd.R_mono (Kd.R_far (p := ⟨gb138, 4, none⟩) (Kd.R_types HO142.out BK138.out (by decide)) (fun _ hk => hk.2) (.slice Ao20 y144.length co20)) (fun _ hk => hk.1)⟩, ⟨by (with_reducible repeat (first | apply Kd.N_alloc | apply Kd.N_drewN | apply Kd.N_drew)); exact Kd.N_mono (Kd.N_far (p := ⟨gb138, 4, none⟩) (Kd.N_mono HO146.out (fun k_ hk => (⟨hk, hk.2.2.2⟩ : _ ∧ k_ ≠ gb138))) (fun _ hk => hk.2) (.slice Ao20 y144.length co20)) (fun _ hk => ⟨hk.1.1, ⟨hk.1.2.1, ⟨hk.1.2.2.1, hk.1.2.2.2⟩⟩⟩)⟩, ⟨by (with_reducible repeat (first | refine blk_drewN ?_ _ | refine blk_drew ?_ | refine blk_alloc ?_ _)); refine blk_far ?_ NB137_138.out _; (with_reducible repeat (first | refine blk_drewN ?_ _ | refine blk_drew ?_ | refine blk_alloc ?_ _)); exact BK137.out⟩, ⟨by (with_reducible repeat (first | refine blk_drewN ?_ _ | refine blk_drew ?_ | refine blk_alloc ?_ _)); refine blk_put (cs := #[.int .i64 6, .int .i64 0, .string (⟨#[]⟩ : ByteArray), .slice Ao15 y140.length co15, u139004]) ?_ 4 _ rfl; (with_reducible repeat (first | refine blk_drewN ?_ _ | refine blk_drew ?_ | refine blk_alloc ?_ _)); exact BK138.out⟩, ⟨by repeat (first | (with_reducible first | exact HB.out | apply below_alloc | apply pw_below_drewN | apply below_drew1 | refine below_set ?_ GE137.out | refine below_set ?_ GE138.out) | exact HB.out)⟩⟩
                · rw [if_neg c12] at H
                  exact absurd H (by simp)
              · rw [if_neg c11] at H
                exact absurd H (by simp)
            · rw [if_neg c9] at H
              exact absurd H (by simp)
          · rw [if_neg c8] at H
            exact absurd H (by simp)
        · rw [if_neg c7] at H
          exact absurd H (by simp)
      · rw [if_neg c6] at H
        have c6b0 : decide ((wrap64 (x4_1 + 1)) < (l0.length : Int)) = false := decide_eq_false c6
        clear c6
        simp only [Option.some.injEq, Prod.mk.injEq] at H
        obtain ⟨rfl, rfl, rfl, rfl, rfl⟩ := H
        have hnb22 := NB138_137.out
        have hnc22 := NB137_138.out
        have hcz23_0 : wr.cell? ⟨gb138, 0, none⟩ = some (.int .i64 6) := (blk_cell BK138.out 0).trans rfl
        have hcz23_1 : wr.cell? ⟨gb138, 1, none⟩ = some (.int .i64 0) := (blk_cell BK138.out 1).trans rfl
        have hcz23_2 : wr.cell? ⟨gb138, 2, none⟩ = some (.string (⟨#[]⟩ : ByteArray)) := (blk_cell BK138.out 2).trans rfl
        have hcz23_3 : wr.cell? ⟨gb138, 3, none⟩ = some (u139003) := (blk_cell BK138.out 3).trans rfl
        have hcz23_4 : wr.cell? ⟨gb138, 4, none⟩ = some (u139004) := (blk_cell BK138.out 4).trans rfl
        have hfz23_0 := blk_frozen BK138.out 0
        have hfz23_1 := blk_frozen BK138.out 1
        have hfz23_2 := blk_frozen BK138.out 2
        have hfz23_3 := blk_frozen BK138.out 3
        have hfz23_4 := blk_frozen BK138.out 4
        have hcz24_0 : wr.cell? ⟨gb137, 0, none⟩ = some (.int .i64 0) := (blk_cell BK137.out 0).trans rfl
        have hcz24_1 : wr.cell? ⟨gb137, 1, none⟩ = some (.int .i64 0) := (blk_cell BK137.out 1).trans rfl
        have hcz24_2 : wr.cell? ⟨gb137, 2, none⟩ = some (.string (⟨#[]⟩ : ByteArray)) := (blk_cell BK137.out 2).trans rfl
        have hcz24_3 : wr.cell? ⟨gb137, 3, none⟩ = some (.slice none 0 0) := (blk_cell BK137.out 3).trans rfl
        have hcz24_4 : wr.cell? ⟨gb137, 4, none⟩ = some (.slice none 0 0) := (blk_cell BK137.out 4).trans rfl
        have hfz24_0 := blk_frozen BK137.out 0
        have hfz24_1 := blk_frozen BK137.out 1
        have hfz24_2 := blk_frozen BK137.out 2
        have hfz24_3 := blk_frozen BK137.out 3
        have hfz24_4 := blk_frozen BK137.out 4
        obtain ⟨Ao25, co25, eo25⟩ := Kd.R_slice HO_139003.out
        subst eo25
        obtain ⟨Ao26, co26, eo26⟩ := Kd.N_slice HO_139004.out
        subst eo26
        go_wp2
        refine bodyPost_ret (results_cell_row rfl _ _ gb137 25 #[.int .i64 6, .int .i64 0, .string (⟨#[]⟩ : ByteArray), .slice Ao25 x139003_1.length co25, .slice Ao26 x139004_1.length co26] (0, 0) _ rfl (by (with_reducible repeat (first | refine blk_drewN ?_ _ | refine blk_drew ?_ | refine blk_alloc ?_ _)); refine blk_put (cs := #[.int .i64 6, .int .i64 0, .string (⟨#[]⟩ : ByteArray), .slice Ao25 x139003_1.length co25, .slice none 0 0]) ?_ 4 _ rfl; (with_reducible repeat (first | refine blk_drewN ?_ _ | refine blk_drew ?_ | refine blk_alloc ?_ _)); refine blk_put (cs := #[.int .i64 6, .int .i64 0, .string (⟨#[]⟩ : ByteArray), .slice none 0 0, .slice none 0 0]) ?_ 3 _ rfl; (with_reducible repeat (first | refine blk_drewN ?_ _ | refine blk_drew ?_ | refine blk_alloc ?_ _)); refine blk_put (cs := #[.int .i64 6, .int .i64 0, .string (⟨#[]⟩ : ByteArray), .slice none 0 0, .slice none 0 0]) ?_ 2 _ rfl; (with_reducible repeat (first | refine blk_drewN ?_ _ | refine blk_drew ?_ | refine blk_alloc ?_ _)); refine blk_put (cs := #[.int .i64 6, .int .i64 0, .string (⟨#[]⟩ : ByteArray), .slice none 0 0, .slice none 0 0]) ?_ 1 _ rfl; (with_reducible repeat (first | refine blk_drewN ?_ _ | refine blk_drew ?_ | refine blk_alloc ?_ _)); refine blk_put (cs := #[.int .i64 0, .int .i64 0, .string (⟨#[]⟩ : ByteArray), .slice none 0 0, .slice none 0 0]) ?_ 0 _ rfl; (with_reducible repeat (first | refine blk_drewN ?_ _ | refine blk_drew ?_ | refine blk_alloc ?_ _)); exact BK137.out) Try.underlying25 rfl (by kernel_rfl)) rfl ?_
        exact ⟨_, _, by first | rfl | (simp [errW_none, errW_some] <;> rfl) | (simp [*, errW_none, errW_some] <;> rfl), by (with_reducible repeat (first | apply Kd.R_alloc | apply Kd.R_drewN | apply Kd.R_drew)); exact Kd.R_mono (Kd.R_far (p := ⟨gb137, 4, none⟩) (Kd.R_far (p := ⟨gb137, 3, none⟩) (Kd.R_far (p := ⟨gb137, 2, none⟩) (Kd.R_far (p := ⟨gb137, 1, none⟩) (Kd.R_far (p := ⟨gb137, 0, none⟩) (Kd.R_types HO_139003.out BK137.out (by decide)) (fun _ hk => hk.2) (.int .i64 6)) (fun _ hk => hk.2) (.int .i64 0)) (fun _ hk => hk.2) (.string (⟨#[]⟩ : ByteArray))) (fun _ hk => hk.2) (.slice Ao25 x139003_1.length co25)) (fun _ hk => hk.2) (.slice Ao26 x139004_1.length co26)) (fun _ hk => hk.1), by (with_reducible repeat (first | apply Kd.N_alloc | apply Kd.N_drewN | apply Kd.N_drew)); exact Kd.N_mono (Kd.N_far (p := ⟨gb137, 4, none⟩) (Kd.N_far (p := ⟨gb137, 3, none⟩) (Kd.N_far (p := ⟨gb137, 2, none⟩) (Kd.N_far (p := ⟨gb137, 1, none⟩) (Kd.N_far (p := ⟨gb137, 0, none⟩) (Kd.N_mono HO_139004.out (fun k_ hk => (⟨hk, hk.2.2.1⟩ : _ ∧ k_ ≠ gb137))) (fun _ hk => hk.2) (.int .i64 6)) (fun _ hk => hk.2) (.int .i64 0)) (fun _ hk => hk.2) (.string (⟨#[]⟩ : ByteArray))) (fun _ hk => hk.2) (.slice Ao25 x139003_1.length co25)) (fun _ hk => hk.2) (.slice Ao26 x139004_1.length co26)) (fun _ hk => ⟨hk.1.1, hk.1.2.1⟩), by repeat (first | (with_reducible first | exact HB.out | apply below_alloc | apply pw_below_drewN | apply below_drew1 | refine below_set ?_ GE137.out | refine below_set ?_ GE138.out) | exact HB.out)⟩
end Go.Proofs.Ytjdldlphfifggaa.X
end
section
namespace Go.Proofs.Ytjdldlphfifggaa.X
open Go.RowKit Go.Proofs.YtjdldlphfifggaaW.PrintWords Go.Proofs.YtjdldlphfifggaaW.PrintLast Go.Proofs.YtjdldlphfifggaaW.PrintMore
set_option linter.unusedVariables false
set_option linter.unusedSimpArgs false
abbrev NdT (W : World) (v : Value) (n : Nd) : Prop := NdV (fun _ => True) W v n
theorem NdV.t {Q : Nat → Prop} {W : World} {v : Value} {n : Nd} (h : NdV Q W v n) : NdT W v n := h.mono (fun _ _ => trivial)
abbrev textD (s : ByteArray) : Nd := ⟨4, 0, s, [], []⟩
abbrev intD (i : Int) : Nd := ⟨3, i, ⟨#[]⟩, [], []⟩
abbrev mapD (K : List ByteArray) (L : List Nd) : Nd := ⟨6, 0, ⟨#[]⟩, K, L⟩
theorem text_nd (s : ByteArray) (w : World) : Calls Try.prog 37 #[.string s] w fun e w' => ∃ v', e = .returned v' ∧ NdT w' v' (textD s) ∧ Below w.heap.size w w' := by
  refine (tree_Text.calls s 4 0 s [] [] w rfl).mono ?_
  rintro e w' ⟨v3, v4, rfl, h3, h4, hb⟩
  exact ⟨_, rfl, NdV.mk_ (n := textD s) (Kd.V_mono (Kd.R_V (base' := 0) h3) (fun _ _ => trivial)) (Kd.V_mono (Kd.R_V (base' := 0) h4) (fun _ _ => trivial)), hb⟩
theorem int_nd (i : Int) (w : World) (h : tree_Int.f i = some (3, i, ⟨#[]⟩, [], [])) : Calls Try.prog 33 #[.int .i64 i] w fun e w' => ∃ v', e = .returned v' ∧ NdT w' v' (intD i) ∧ Below w.heap.size w w' := by
  refine (tree_Int.calls i 3 i ⟨#[]⟩ [] [] w h).mono ?_
  rintro e w' ⟨v3, v4, rfl, h3, h4, hb⟩
  exact ⟨_, rfl, NdV.mk_ (n := intD i) (Kd.V_mono (Kd.R_V (base' := 0) h3) (fun _ _ => trivial)) (Kd.V_mono (Kd.R_V (base' := 0) h4) (fun _ _ => trivial)), hb⟩
theorem map_nd {w : World} {A : Option Addr} {c : Nat} {l : List Nd} {K : List ByteArray} {L : List Nd} (k : Nat) (h : Kd.V k25 nodeT w 0 (fun _ => True) (.slice A l.length c) l) (hf : tree_Map.f k l = some (6, 0, ⟨#[]⟩, K, L)) :
    Calls Try.prog 41 #[.slice A l.length c] w fun e w' => ∃ v', e = .returned v' ∧ NdT w' v' (mapD K L) ∧ Below w.heap.size w w' := by
  refine (tree_Map.calls k (fun _ => True) A c l 6 0 ⟨#[]⟩ K L w h hf).mono ?_
  rintro e w' ⟨v3, v4, rfl, h3, h4, hb⟩
  exact ⟨_, rfl, NdV.mk_ (n := mapD K L) (Kd.V_mono (Kd.R_V (base' := 0) h3) (fun _ _ => trivial)) (Kd.V_mono (Kd.N_V (base' := 0) h4) (fun _ _ => trivial)), hb⟩
theorem NdV.fk {W : World} {Q : Nat → Prop} {n : Nd} {cs : List Value} (h : NdV Q W (.agg cs.toArray) n) : Kd.FK k25 W Q n cs := by
  obtain ⟨A3, c3, A4, c4, e, h3, h4⟩ := h
  injection e with e
  have : cs = [.int .i64 n.f0, .int .i64 n.f1, .string n.f2, .slice A3 n.f3.length c3, .slice A4 n.f4.length c4] := by
    have := congrArg Array.toList e
    simpa using this
  subst this
  exact k25_mkF W Q n (Kd.V_reads' h3).2.1 (Kd.V_F h3) (Kd.V_reads' h4).2.1 (Kd.V_F h4)
theorem lit_V {W : World} {xs : List Nd} {inner : List Value} (hrep : Reps (Kd.FK k25 W (fun _ => True)) 5 xs inner) (hm : xs.length ≤ 9223372036854775807) (g : Nat) (hg : g = W.heap.size) :
    Kd.V k25 nodeT (W.alloc (.cells inner.toArray nodeT)) 0 (fun _ => True) (.slice (some ⟨g, 0, none⟩) xs.length xs.length) xs := by
  subst hg
  have h2 := World.ownsRow_lit (base := 0) (e := nodeT) (size := 5) W inner.toArray xs.length (Nat.zero_le _) (by simpa [maxLen] using hm) (by simpa using hrep.1)
  have hR : (Kd.raw 5).R nodeT (W.alloc (.cells inner.toArray nodeT)) 0 (fun k => k = W.heap.size) (.slice (some ⟨W.heap.size, 0, none⟩) xs.length xs.length) (Kd.chunks 5 xs.length inner) := by
    refine ⟨fun k hk => by simpa [Value.ownBlock] using hk.symm, inner, ?_, Kd.reps_raw hrep (fun y c hk => ⟨Kd.K_len k25 (Kd.FK_now hk), Kd.K_one k25 (Kd.FK_now hk)⟩)⟩
    rw [Kd.chunks_length]
    have h3 : (W.alloc (.cells inner.toArray nodeT)).ownsRow 0 nodeT 5 (.slice (some ⟨W.heap.size, 0, none⟩) xs.length xs.length) xs.length inner := by simpa using h2
    exact h3
  exact Kd.N_V (base := 0) (base' := 0) (Kd.N_made (W := W) hR (World.grownBy_alloc W _ none) ⟨W.heap.size, by simp [Value.ownBlock], Nat.le_refl _⟩ (Kd.chunks_length _ _ _) (fun j y c hy hc => by rw [Kd.chunks_get hc]; exact hrep.2 j y hy) (fun _ _ => trivial) trivial)
end Go.Proofs.Ytjdldlphfifggaa.X
end
section
namespace Go.Proofs.Ytjdldlphfifggaa.X
open Go.RowKit Go.Proofs.YtjdldlphfifggaaW.PrintWords Go.Proofs.YtjdldlphfifggaaW.PrintLast Go.Proofs.YtjdldlphfifggaaW.PrintMore
attribute [local go_sem] max2_int min2_int max_two min_two max_three min_three max_four min_four
set_option linter.unusedVariables false
set_option linter.unusedSimpArgs false
def sealringref26_Of.f (a0 : Int) : Option (List Bool × Bool) := if a0 < 1 then (some (([] : List Bool), false)) else (if a0 > 11 then (some (([] : List Bool), false)) else (some ((([decide (a0 ≤ 2), decide (a0 ≤ 2), decide (a0 ≥ 4), decide (a0 ≤ 5), decide (a0 ≥ 8), decide (a0 ≥ 9), decide (a0 ≥ 11)] : List Bool)), true)))
set_option maxHeartbeats 8000000 in
set_option maxRecDepth 100000 in
theorem sealringref26_Of.calls (a0 : Int) (r1 : List Bool) (r2 : Bool) (w : World) (h : sealringref26_Of.f a0 = some (r1, r2)) :
    Calls Try.prog 104 #[.int .i64 a0] w fun e w' => ∃ v0_ : Value, e = .returned (.tuple #[v0_, .bool r2]) ∧ Kd.R Kd.bool 4 w' w.heap.size (fun _ => True) v0_ r1 ∧ Below w.heap.size w w' := by
  have HB := Aside0.mk (Below.refl w.heap.size w)
  have H : (if a0 < 1 then (some (([] : List Bool), false)) else (if a0 > 11 then (some (([] : List Bool), false)) else (some ((([decide (a0 ≤ 2), decide (a0 ≤ 2), decide (a0 ≥ 4), decide (a0 ≤ 5), decide (a0 ≥ 8), decide (a0 ≥ 9), decide (a0 ≥ 11)] : List Bool)), true)))) = some (r1, r2) := h
  clear h
  by_cases c2 : a0 < 1
  · rw [if_pos c2] at H
    have c2b0 : decide (a0 < 1) = true := decide_eq_true c2
    clear c2
    simp only [Option.some.injEq, Prod.mk.injEq] at H
    obtain ⟨rfl, rfl⟩ := H
    go_enter Try.func104, Try.ntmps104
    go_wp2
    go_ret2
    exact ⟨_, by first | rfl | (simp [errW_none, errW_some] <;> rfl) | (simp [*, errW_none, errW_some] <;> rfl), by first | exact Kd.R_nil _ _ _ _ _ | exact Kd.N_nil _ _ _ _ _ | exact Kd.V_nil _ _ _ _ _ | exact Kd.Q_nil _ _ _ _ _ | exact Kd.S_nil _ _ _ _ _, by repeat (first | (with_reducible first | exact HB.out | apply below_alloc | apply pw_below_drewN | apply below_drew1) | exact HB.out)⟩
  · rw [if_neg c2] at H
    have c2b0 : decide (a0 < 1) = false := decide_eq_false c2
    clear c2
    by_cases c3 : a0 > 11
    · rw [if_pos c3] at H
      have c3b0 : decide (11 < a0) = true := decide_eq_true c3
      clear c3
      simp only [Option.some.injEq, Prod.mk.injEq] at H
      obtain ⟨rfl, rfl⟩ := H
      go_enter Try.func104, Try.ntmps104
      go_wp2
      go_ret2
      exact ⟨_, by first | rfl | (simp [errW_none, errW_some] <;> rfl) | (simp [*, errW_none, errW_some] <;> rfl), by first | exact Kd.R_nil _ _ _ _ _ | exact Kd.N_nil _ _ _ _ _ | exact Kd.V_nil _ _ _ _ _ | exact Kd.Q_nil _ _ _ _ _ | exact Kd.S_nil _ _ _ _ _, by repeat (first | (with_reducible first | exact HB.out | apply below_alloc | apply pw_below_drewN | apply below_drew1) | exact HB.out)⟩
    · rw [if_neg c3] at H
      have c3b0 : decide (11 < a0) = false := decide_eq_false c3
      clear c3
      obtain ⟨y1327, hy1327⟩ : ∃ y_ : List Bool, y_ = (([decide (a0 ≤ 2), decide (a0 ≤ 2), decide (a0 ≥ 4), decide (a0 ≤ 5), decide (a0 ≥ 8), decide (a0 ≥ 9), decide (a0 ≥ 11)] : List Bool)) := ⟨_, rfl⟩
      replace H : (some (y1327, true)) = some (r1, r2) := by first | (rw [hy1327]; with_reducible exact H) | (have H2_ := (Option.bind_some _ _).symm.trans H; rw [hy1327]; with_reducible exact H2_) | (have H2_ := (Option.bind_some _ _).symm.trans H; with_reducible exact H2_) | with_reducible exact H | (rw [hy1327]; exact H) | exact H
      have Ny1327 := Aside0.mk hy1327
      clear hy1327
      simp only [Option.some.injEq, Prod.mk.injEq] at H
      obtain ⟨rfl, rfl⟩ := H
      go_enter Try.func104, Try.ntmps104
      go_wp2_with (first | ((with_reducible refine gate_dst (N := 24) rfl ?_); refine Kd.R_lit Kd.bool _ 4 ?hg (N := 24) ?hd (xs := ([decide (a0 ≤ 2), decide (a0 ≤ 2), decide (a0 ≥ 4), decide (a0 ≤ 5), decide (a0 ≥ 8), decide (a0 ≥ 9), decide (a0 ≥ 11)] : List Bool)) (inner := [.bool (decide (a0 ≤ 2)), .bool (decide (a0 ≤ 2)), .bool (decide (a0 ≥ 4)), .bool (decide (a0 ≤ 5)), .bool (decide (a0 ≥ 8)), .bool (decide (a0 ≥ 9)), .bool (decide (a0 ≥ 11))]) (ok := fun _ => True) (okp := fun _ => True) ?hr ?hp (fun _ hk => hk) trivial (Below.refl _ _) (Nat.le_refl _) (by simp) ?_; (case hd => rfl); (case hg => rfl); (case hr => first | (go_simp; done) | (go_simp; rfl)); (case hp => exact (Reps.one (show Kd.M Kd.bool _ _ _ (decide (a0 ≤ 2)) [.bool (decide (a0 ≤ 2))] from rfl) (Reps.one (show Kd.M Kd.bool _ _ _ (decide (a0 ≤ 2)) [.bool (decide (a0 ≤ 2))] from rfl) (Reps.one (show Kd.M Kd.bool _ _ _ (decide (a0 ≥ 4)) [.bool (decide (a0 ≥ 4))] from rfl) (Reps.one (show Kd.M Kd.bool _ _ _ (decide (a0 ≤ 5)) [.bool (decide (a0 ≤ 5))] from rfl) (Reps.one (show Kd.M Kd.bool _ _ _ (decide (a0 ≥ 8)) [.bool (decide (a0 ≥ 8))] from rfl) (Reps.one (show Kd.M Kd.bool _ _ _ (decide (a0 ≥ 9)) [.bool (decide (a0 ≥ 9))] from rfl) (Reps.one (show Kd.M Kd.bool _ _ _ (decide (a0 ≥ 11)) [.bool (decide (a0 ≥ 11))] from rfl) (Reps.none _ _))))))))); intro v1328 w4 ho5 hb hg_ hnew_; clear hg_ hnew_; (first | rw [← Ny1327.out] at ho5 | (simp only [Int.reduceToNat] at ho5; rw [← Ny1327.out] at ho5)); have n0_ := Aside0.mk (Kd.R_lower ho5 (below_size (by repeat (first | (with_reducible first | exact HB.out | apply below_alloc | apply pw_below_drewN | apply below_drew1) | exact HB.out)))); have n1_ := Aside0.mk (below_step (by repeat (first | (with_reducible first | exact HB.out | apply below_alloc | apply pw_below_drewN | apply below_drew1) | exact HB.out)) hb); clear HB; have HO1329 := n0_; have HB := n1_; clear n0_ n1_; clear hb ho5))
      go_ret2
      exact ⟨_, by first | rfl | (simp [errW_none, errW_some] <;> rfl) | (simp [*, errW_none, errW_some] <;> rfl), by (with_reducible repeat (first | apply Kd.R_alloc | apply Kd.R_drewN | apply Kd.R_drew)); exact HO1329.out, by repeat (first | (with_reducible first | exact HB.out | apply below_alloc | apply pw_below_drewN | apply below_drew1) | exact HB.out)⟩
end Go.Proofs.Ytjdldlphfifggaa.X
end
section
namespace Go.Proofs.Ytjdldlphfifggaa.X
open Go.RowKit Go.Proofs.YtjdldlphfifggaaW.PrintWords Go.Proofs.YtjdldlphfifggaaW.PrintLast Go.Proofs.YtjdldlphfifggaaW.PrintMore
attribute [local go_sem] max2_int min2_int max_two min_two max_three min_three max_four min_four
set_option linter.unusedVariables false
set_option linter.unusedSimpArgs false
def sealringref32_some.l0 : Nat → List ByteArray → List Bool → List ByteArray → Int → Option (List ByteArray)
  | 0, _, _, _, _ => none
  | k + 1, x0, x1, x5, x6 => if x6 < (x0.length : Int) then (if 0 ≤ x6 then (if x6 < (x1.length : Int) then (if rdOf false x1 x6 = true then (if x5.length < 8796093022208 then (sealringref32_some.l0 k x0 x1 (x5 ++ [rdOf ByteArray.empty x0 x6]) (wrap64 (x6 + 1))) else (none)) else (sealringref32_some.l0 k x0 x1 x5 (wrap64 (x6 + 1)))) else (none)) else (none)) else (some x5)
def sealringref32_some.f (k : Nat) (l0 : List ByteArray) (l1 : List Bool) : Option (List ByteArray) := sealringref32_some.l0 k l0 l1 ([] : List ByteArray) 0
theorem sealringref32_some.mono_l : ∀ k, (∀ y0 y1 y2 y3, LeO (sealringref32_some.l0 k y0 y1 y2 y3) (sealringref32_some.l0 (k + 1) y0 y1 y2 y3))
  | 0 => fun _ _ _ _ r h => by simp [sealringref32_some.l0] at h
  | k + 1 => by
    have ih0 := sealringref32_some.mono_l k
    · intro y0 y1 y2 y3
      unfold sealringref32_some.l0
      repeat' first
      | (with_reducible exact ih0 _ _ _ _)
      | (with_reducible exact LeO.refl _)
      | (with_reducible exact LeO.none _)
      | (with_reducible refine LeO.ite ?_ ?_)
      | (with_reducible refine LeO.bind ?_ (fun _ => ?_))
      | exact ih0 _ _ _ _
      | exact LeO.none _
      | refine LeO.ite ?_ ?_
      | refine LeO.bind ?_ (fun _ => ?_)
theorem sealringref32_some.mono : ∀ a0 a1 k, LeO (sealringref32_some.f k a0 a1) (sealringref32_some.f (k + 1) a0 a1) := by
  intro a0 a1 k
  have ih0 := sealringref32_some.mono_l k
  unfold sealringref32_some.f
  repeat' first
      | (with_reducible exact ih0 _ _ _ _)
      | (with_reducible exact LeO.refl _)
      | (with_reducible exact LeO.none _)
      | (with_reducible refine LeO.ite ?_ ?_)
      | (with_reducible refine LeO.bind ?_ (fun _ => ?_))
      | exact ih0 _ _ _ _
      | exact LeO.none _
      | refine LeO.ite ?_ ?_
      | refine LeO.bind ?_ (fun _ => ?_)
set_option maxHeartbeats 8000000 in
set_option maxRecDepth 100000 in
theorem sealringref32_some.calls (k : Nat) (A0 : Option Addr) (c0 : Nat) (l0 : List ByteArray) (A1 : Option Addr) (c1 : Nat) (l1 : List Bool) (r : List ByteArray) (w : World) (hr0 : Kd.C Kd.string w A0 l0.length l0) (hc0 : l0.length ≤ c0) (hr1 : Kd.C Kd.bool w A1 l1.length l1) (hc1 : l1.length ≤ c1) (h : sealringref32_some.f k l0 l1 = some r) :
    Calls Try.prog 105 #[.slice A0 l0.length c0, .slice A1 l1.length c1] w fun e w' => ∃ v0_ : Value, e = .returned (v0_) ∧ Kd.R Kd.string 9 w' w.heap.size (fun _ => True) v0_ r ∧ Below w.heap.size w w' := by
  have HR0 := Aside0.mk hr0
  have HC0 := Aside0.mk hc0
  clear hr0 hc0
  have HR1 := Aside0.mk hr1
  have HC1 := Aside0.mk hc1
  clear hr1 hc1
  have HB := Aside0.mk (Below.refl w.heap.size w)
  have H : (sealringref32_some.l0 k l0 l1 ([] : List ByteArray) 0) = some r := h
  clear h
  have H' := Aside0.mk H
  clear H
  go_enter Try.func105, Try.ntmps105
  go_wp2
  go_loopg [5, 6] k (fun kq v5 v6 w' => ∃ (x5_1 : List ByteArray) (x6_1 : Int), v6 = .int .i64 x6_1 ∧ Aside0 (sealringref32_some.l0 kq l0 l1 x5_1 x6_1 = some r) ∧ Aside0 (kq ≤ k) ∧ Aside0 (Kd.R Kd.string 9 w' w.heap.size (fun _ => True) v5 x5_1) ∧ Aside0 (Below w.heap.size w w'))
  case atStart => exact ⟨(([] : List ByteArray)), (0), (by first | rfl | (simp; done) | (simp [*]; done)), (by first | with_reducible exact H' | exact H' | (subst_vars; exact H')), ⟨Nat.le_refl _⟩, ⟨by first | exact Kd.R_nil _ _ _ _ _ | exact Kd.N_nil _ _ _ _ _ | exact Kd.V_nil _ _ _ _ _ | exact Kd.Q_nil _ _ _ _ _ | exact Kd.S_nil _ _ _ _ _⟩, ⟨by repeat (first | (with_reducible first | exact HB.out | apply below_alloc | apply pw_below_drewN | apply below_drew1) | exact HB.out)⟩⟩
  case round =>
    clear H'
    try clear c1
    try clear p2
    obtain ⟨x5_1, x6_1, rfl, HA, HK1, HO_5, HB⟩ := hrel
    cases gk with
    | zero => exact absurd HA.out (by simp [sealringref32_some.l0])
    | succ k1 =>
      have H := HA.out
      clear HA
      simp only [sealringref32_some.l0] at H
      by_cases c3 : x6_1 < (l0.length : Int)
      · rw [if_pos c3] at H
        have c3b0 : decide (x6_1 < (l0.length : Int)) = true := decide_eq_true c3
        clear c3
        by_cases c4 : 0 ≤ x6_1
        · rw [if_pos c4] at H
          have c4b0 : decide (0 ≤ x6_1) = true := decide_eq_true c4
          clear c4
          by_cases c5 : x6_1 < (l1.length : Int)
          · rw [if_pos c5] at H
            have c5b0 : decide (x6_1 < (l1.length : Int)) = true := decide_eq_true c5
            clear c5
            obtain ⟨bq6, hbq6⟩ : ∃ b_ : Bool, b_ = (rdOf false l1 x6_1) := ⟨_, rfl⟩
            replace H : (if bq6 = true then (if x5_1.length < 8796093022208 then (sealringref32_some.l0 k1 l0 l1 (x5_1 ++ [rdOf ByteArray.empty l0 x6_1]) (wrap64 (x6_1 + 1))) else (none)) else (sealringref32_some.l0 k1 l0 l1 x5_1 (wrap64 (x6_1 + 1)))) = some r := by rw [← hbq6] at H; exact H
            have Nbq6 := Aside0.mk hbq6
            clear hbq6
            by_cases c7 : bq6 = true
            · subst c7
              have H1 : (if x5_1.length < 8796093022208 then (sealringref32_some.l0 k1 l0 l1 (x5_1 ++ [rdOf ByteArray.empty l0 x6_1]) (wrap64 (x6_1 + 1))) else (none)) = some r := by rw [if_pos rfl] at H; exact H
              clear H
              have H := H1
              clear H1
              by_cases c8 : x5_1.length < 8796093022208
              · rw [if_pos c8] at H
                have LMc8 := Aside0.mk c8
                clear c8
                obtain ⟨y1332, hy1332⟩ : ∃ y_ : List ByteArray, y_ = (x5_1 ++ [rdOf ByteArray.empty l0 x6_1]) := ⟨_, rfl⟩
                replace H : (sealringref32_some.l0 k1 l0 l1 y1332 (wrap64 (x6_1 + 1))) = some r := by first | (rw [hy1332]; with_reducible exact H) | (have H2_ := (Option.bind_some _ _).symm.trans H; rw [hy1332]; with_reducible exact H2_) | (have H2_ := (Option.bind_some _ _).symm.trans H; with_reducible exact H2_) | with_reducible exact H | (rw [hy1332]; exact H) | exact H
                have Ny1332 := Aside0.mk hy1332
                clear hy1332
                have H' := Aside0.mk H
                clear H
                have p1330 : 0 ≤ (x6_1 : Int) := of_decide_eq_true (by first | (with_reducible assumption) | assumption)
                have q1330 : x6_1 < (l1.length : Int) := of_decide_eq_true (by first | (with_reducible assumption) | assumption)
                obtain ⟨ad1330, e1330, hx1330_0⟩ := Kd.at_bool HR1.out x6_1 p1330 q1330
                (try rw [← Nbq6.out] at hx1330_0)
                cases e1330
                (try replace hx1330_0 := (HB.out.cell (World.block_lt_of_cell? w _ hx1330_0)).trans hx1330_0)
                replace p1330 := eq_true p1330
                replace q1330 := eq_true q1330
                have p1331 : 0 ≤ (x6_1 : Int) := of_decide_eq_true (by first | (with_reducible assumption) | assumption)
                have q1331 : x6_1 < (l0.length : Int) := of_decide_eq_true (by first | (with_reducible assumption) | assumption)
                obtain ⟨ad1331, e1331, hx1331_0⟩ := Kd.at_string HR0.out x6_1 p1331 q1331
                cases e1331
                (try replace hx1331_0 := (HB.out.cell (World.block_lt_of_cell? w _ hx1331_0)).trans hx1331_0)
                replace p1331 := eq_true p1331
                replace q1331 := eq_true q1331
                go_wp2_with (first | ((with_reducible refine gate_builtin (b := .append) (xs := #[.tmp 17, .tmp 22]) rfl ?_); at_builtin; refine Kd.R_append Kd.string (w0 := w) w.heap.size rfl (.tmp 17) (.tmp 22) 22 9 (.string ⟨#[]⟩) 16 rfl Try.underlying22 info9 rfl (by decide) (by omega) u5 x5_1 (rdOf ByteArray.empty l0 x6_1) [.string (rdOf ByteArray.empty l0 x6_1)] (fun _ => True) (fun _ => False) rfl rfl ?aP (fun _ hk => hk.elim) ?aF ?aO ?aB ?aS ?aL ?_; (case aP => exact rfl); (case aB => exact (by repeat (first | (with_reducible first | exact HB.out | apply below_alloc | apply pw_below_drewN | apply below_drew1) | exact HB.out))); (case aF => exact (fun _ _ => trivial)); (case aO => exact (by (with_reducible repeat (first | apply Kd.R_alloc | apply Kd.R_drewN | apply Kd.R_drew)); exact HO_5.out)); (case aS => exact (below_size (by repeat (first | (with_reducible first | exact HB.out | apply below_alloc | apply pw_below_drewN | apply below_drew1) | exact HB.out)))); (case aL => have := LMc8.out; omega); intro v1333 w9 ho hb hg hat; rw [← Ny1332.out] at ho; have n0_ := Aside0.mk (hb); have n1_ := Aside0.mk (ho); clear HB; clear HO_5; have HB := n0_; have HO1334 := n1_; clear n0_ n1_; clear ho hb hg hat))
                go_roundg k1
                case measure => have := HK1.out; omega
                case rel => exact ⟨(y1332), (wrap64 (x6_1 + 1)), (by first | rfl | (simp; done) | (simp [*]; done)), (by first | with_reducible exact H' | exact H' | (subst_vars; exact H')), ⟨by have := HK1.out; omega⟩, ⟨by (with_reducible repeat (first | apply Kd.R_alloc | apply Kd.R_drewN | apply Kd.R_drew)); exact HO1334.out⟩, ⟨by repeat (first | (with_reducible first | exact HB.out | apply below_alloc | apply pw_below_drewN | apply below_drew1) | exact HB.out)⟩⟩
              · rw [if_neg c8] at H
                exact absurd H (by simp)
            · replace c7 := Bool.eq_false_iff.mpr c7
              subst c7
              have H1 : (sealringref32_some.l0 k1 l0 l1 x5_1 (wrap64 (x6_1 + 1))) = some r := by rw [if_neg (show ¬ (false = true) by decide)] at H; exact H
              clear H
              have H := H1
              clear H1
              have H' := Aside0.mk H
              clear H
              have p1330 : 0 ≤ (x6_1 : Int) := of_decide_eq_true (by first | (with_reducible assumption) | assumption)
              have q1330 : x6_1 < (l1.length : Int) := of_decide_eq_true (by first | (with_reducible assumption) | assumption)
              obtain ⟨ad1330, e1330, hx1330_0⟩ := Kd.at_bool HR1.out x6_1 p1330 q1330
              (try rw [← Nbq6.out] at hx1330_0)
              cases e1330
              (try replace hx1330_0 := (HB.out.cell (World.block_lt_of_cell? w _ hx1330_0)).trans hx1330_0)
              replace p1330 := eq_true p1330
              replace q1330 := eq_true q1330
              go_wp2
              go_roundg k1
              case measure => have := HK1.out; omega
              case rel => exact ⟨(x5_1), (wrap64 (x6_1 + 1)), (by first | rfl | (simp; done) | (simp [*]; done)), (by first | with_reducible exact H' | exact H' | (subst_vars; exact H')), ⟨by have := HK1.out; omega⟩, ⟨by (with_reducible repeat (first | apply Kd.R_alloc | apply Kd.R_drewN | apply Kd.R_drew)); exact HO_5.out⟩, ⟨by repeat (first | (with_reducible first | exact HB.out | apply below_alloc | apply pw_below_drewN | apply below_drew1) | exact HB.out)⟩⟩
          · rw [if_neg c5] at H
            exact absurd H (by simp)
        · rw [if_neg c4] at H
          exact absurd H (by simp)
      · rw [if_neg c3] at H
        have c3b0 : decide (x6_1 < (l0.length : Int)) = false := decide_eq_false c3
        clear c3
        obtain rfl := Option.some.inj H
        go_wp2
        go_ret
        exact ⟨_, by first | rfl | (simp [errW_none, errW_some] <;> rfl) | (simp [*, errW_none, errW_some] <;> rfl), by (with_reducible repeat (first | apply Kd.R_alloc | apply Kd.R_drewN | apply Kd.R_drew)); exact HO_5.out, by repeat (first | (with_reducible first | exact HB.out | apply below_alloc | apply pw_below_drewN | apply below_drew1) | exact HB.out)⟩
end Go.Proofs.Ytjdldlphfifggaa.X
end
section
namespace Go.Proofs.Ytjdldlphfifggaa.X
open Go.RowKit Go.Proofs.YtjdldlphfifggaaW.PrintWords Go.Proofs.YtjdldlphfifggaaW.PrintLast Go.Proofs.YtjdldlphfifggaaW.PrintMore
attribute [local go_sem] max2_int min2_int max_two min_two max_three min_three max_four min_four
set_option linter.unusedVariables false
set_option linter.unusedSimpArgs false
def sealringref32_Content.f (k : Nat) (a0 : Int) (a1 : ByteArray) : Option (List ByteArray × Bool) := (sealringref26_Of.f a0).bind fun bt1335 => (if bt1335.2 = true then (if a1.toList = ([109, 46, 114, 111, 111, 109, 46, 109, 101, 109, 98, 101, 114] : List UInt8) then (if 5 < (bt1335.1.length : Int) then (if 6 < (bt1335.1.length : Int) then ((sealringref32_some.f k (([(⟨#[106, 111, 105, 110, 95, 97, 117, 116, 104, 111, 114, 105, 115, 101, 100, 95, 118, 105, 97, 95, 117, 115, 101, 114, 115, 95, 115, 101, 114, 118, 101, 114]⟩ : ByteArray), (⟨#[109, 101, 109, 98, 101, 114, 115, 104, 105, 112]⟩ : ByteArray), (⟨#[116, 104, 105, 114, 100, 95, 112, 97, 114, 116, 121, 95, 105, 110, 118, 105, 116, 101]⟩ : ByteArray)] : List ByteArray)) (([rdOf false bt1335.1 5, true, rdOf false bt1335.1 6] : List Bool))).bind fun t1347 => (some (t1347, false))) else (none)) else (none)) else (if a1.toList = ([109, 46, 114, 111, 111, 109, 46, 99, 114, 101, 97, 116, 101] : List UInt8) then (if 6 < (bt1335.1.length : Int) then (if rdOf false bt1335.1 6 = true then (some (([] : List ByteArray), true)) else (some ((([(⟨#[99, 114, 101, 97, 116, 111, 114]⟩ : ByteArray)] : List ByteArray)), false))) else (none)) else (if a1.toList = ([109, 46, 114, 111, 111, 109, 46, 106, 111, 105, 110, 95, 114, 117, 108, 101, 115] : List UInt8) then (if 4 < (bt1335.1.length : Int) then ((sealringref32_some.f k (([(⟨#[97, 108, 108, 111, 119]⟩ : ByteArray), (⟨#[106, 111, 105, 110, 95, 114, 117, 108, 101]⟩ : ByteArray)] : List ByteArray)) (([rdOf false bt1335.1 4, true] : List Bool))).bind fun t1361 => (some (t1361, false))) else (none)) else (if a1.toList = ([109, 46, 114, 111, 111, 109, 46, 112, 111, 119, 101, 114, 95, 108, 101, 118, 101, 108, 115] : List UInt8) then (if 6 < (bt1335.1.length : Int) then ((sealringref32_some.f k (([(⟨#[98, 97, 110]⟩ : ByteArray), (⟨#[101, 118, 101, 110, 116, 115]⟩ : ByteArray), (⟨#[101, 118, 101, 110, 116, 115, 95, 100, 101, 102, 97, 117, 108, 116]⟩ : ByteArray), (⟨#[105, 110, 118, 105, 116, 101]⟩ : ByteArray), (⟨#[107, 105, 99, 107]⟩ : ByteArray), (⟨#[114, 101, 100, 97, 99, 116]⟩ : ByteArray), (⟨#[115, 116, 97, 116, 101, 95, 100, 101, 102, 97, 117, 108, 116]⟩ : ByteArray), (⟨#[117, 115, 101, 114, 115]⟩ : ByteArray), (⟨#[117, 115, 101, 114, 115, 95, 100, 101, 102, 97, 117, 108, 116]⟩ : ByteArray)] : List ByteArray)) (([true, true, true, rdOf false bt1335.1 6, true, true, true, true, true] : List Bool))).bind fun t1371 => (some (t1371, false))) else (none)) else (if a1.toList = ([109, 46, 114, 111, 111, 109, 46, 97, 108, 105, 97, 115, 101, 115] : List UInt8) then (if 3 < (bt1335.1.length : Int) then ((sealringref32_some.f k (([(⟨#[97, 108, 105, 97, 115, 101, 115]⟩ : ByteArray)] : List ByteArray)) (([rdOf false bt1335.1 3] : List Bool))).bind fun t1381 => (some (t1381, false))) else (none)) else (if a1.toList = ([109, 46, 114, 111, 111, 109, 46, 104, 105, 115, 116, 111, 114, 121, 95, 118, 105, 115, 105, 98, 105, 108, 105, 116, 121] : List UInt8) then (some ((([(⟨#[104, 105, 115, 116, 111, 114, 121, 95, 118, 105, 115, 105, 98, 105, 108, 105, 116, 121]⟩ : ByteArray)] : List ByteArray)), false)) else (if a1.toList = ([109, 46, 114, 111, 111, 109, 46, 114, 101, 100, 97, 99, 116, 105, 111, 110] : List UInt8) then (if 6 < (bt1335.1.length : Int) then ((sealringref32_some.f k (([(⟨#[114, 101, 100, 97, 99, 116, 115]⟩ : ByteArray)] : List ByteArray)) (([rdOf false bt1335.1 6] : List Bool))).bind fun t1394 => (some (t1394, false))) else (none)) else (some (([] : List ByteArray), false))))))))) else (some (([] : List ByteArray), false)))
theorem sealringref32_Content.mono : ∀ a0 a1 k, LeO (sealringref32_Content.f k a0 a1) (sealringref32_Content.f (k + 1) a0 a1) := by
  intro a0 a1 k
  unfold sealringref32_Content.f
  repeat' first
      | (with_reducible exact sealringref32_some.mono _ _ _)
      | (with_reducible exact LeO.refl _)
      | (with_reducible exact LeO.none _)
      | (with_reducible refine LeO.ite ?_ ?_)
      | (with_reducible refine LeO.bind ?_ (fun _ => ?_))
      | exact sealringref32_some.mono _ _ _
      | exact LeO.none _
      | refine LeO.ite ?_ ?_
      | refine LeO.bind ?_ (fun _ => ?_)
def sealringref32_Content.T6 : Bool × List (List Nat × List Nat) := (true, [([], []), ([], []), ([1], [1]), ([2], [2]), ([], []), ([4], [4]), ([5], [5]), ([3, 6], [3, 6]), ([0, 7], [0, 7]), ([8, 8, 0, 1, 2, 3, 4, 5, 6, 7, 8], [8]), ([9, 0, 1, 2, 3, 4, 5, 6, 7, 8, 9], [])])
def sealringref32_Content.B6 : List Nat := [0, 0, 2, 6, 0, 16, 48, 126, 255, 511, 1023]
theorem sealringref32_Content.tab6 : rtab .any (opsOf Try.f55 6) = sealringref32_Content.T6 := by kernel_rfl
theorem sealringref32_Content.bits6 : waitsOk sealringref32_Content.T6.2 sealringref32_Content.B6 = true := by kernel_rfl
set_option maxHeartbeats 8000000 in
set_option maxRecDepth 100000 in
theorem sealringref32_Content.calls (k : Nat) (a0 : Int) (a1 : ByteArray) (r1 : List ByteArray) (r2 : Bool) (w : World) (h : sealringref32_Content.f k a0 a1 = some (r1, r2)) :
    Calls Try.prog 55 #[.int .i64 a0, .string a1] w fun e w' => ∃ v0_ : Value, e = .returned (.tuple #[v0_, .bool r2]) ∧ Kd.R Kd.string 9 w' w.heap.size (fun _ => True) v0_ r1 ∧ Below w.heap.size w w' := by
  have HB := Aside0.mk (Below.refl w.heap.size w)
  have H : ((sealringref26_Of.f a0).bind fun bt1335 => (if bt1335.2 = true then (if a1.toList = ([109, 46, 114, 111, 111, 109, 46, 109, 101, 109, 98, 101, 114] : List UInt8) then (if 5 < (bt1335.1.length : Int) then (if 6 < (bt1335.1.length : Int) then ((sealringref32_some.f k (([(⟨#[106, 111, 105, 110, 95, 97, 117, 116, 104, 111, 114, 105, 115, 101, 100, 95, 118, 105, 97, 95, 117, 115, 101, 114, 115, 95, 115, 101, 114, 118, 101, 114]⟩ : ByteArray), (⟨#[109, 101, 109, 98, 101, 114, 115, 104, 105, 112]⟩ : ByteArray), (⟨#[116, 104, 105, 114, 100, 95, 112, 97, 114, 116, 121, 95, 105, 110, 118, 105, 116, 101]⟩ : ByteArray)] : List ByteArray)) (([rdOf false bt1335.1 5, true, rdOf false bt1335.1 6] : List Bool))).bind fun t1347 => (some (t1347, false))) else (none)) else (none)) else (if a1.toList = ([109, 46, 114, 111, 111, 109, 46, 99, 114, 101, 97, 116, 101] : List UInt8) then (if 6 < (bt1335.1.length : Int) then (if rdOf false bt1335.1 6 = true then (some (([] : List ByteArray), true)) else (some ((([(⟨#[99, 114, 101, 97, 116, 111, 114]⟩ : ByteArray)] : List ByteArray)), false))) else (none)) else (if a1.toList = ([109, 46, 114, 111, 111, 109, 46, 106, 111, 105, 110, 95, 114, 117, 108, 101, 115] : List UInt8) then (if 4 < (bt1335.1.length : Int) then ((sealringref32_some.f k (([(⟨#[97, 108, 108, 111, 119]⟩ : ByteArray), (⟨#[106, 111, 105, 110, 95, 114, 117, 108, 101]⟩ : ByteArray)] : List ByteArray)) (([rdOf false bt1335.1 4, true] : List Bool))).bind fun t1361 => (some (t1361, false))) else (none)) else (if a1.toList = ([109, 46, 114, 111, 111, 109, 46, 112, 111, 119, 101, 114, 95, 108, 101, 118, 101, 108, 115] : List UInt8) then (if 6 < (bt1335.1.length : Int) then ((sealringref32_some.f k (([(⟨#[98, 97, 110]⟩ : ByteArray), (⟨#[101, 118, 101, 110, 116, 115]⟩ : ByteArray), (⟨#[101, 118, 101, 110, 116, 115, 95, 100, 101, 102, 97, 117, 108, 116]⟩ : ByteArray), (⟨#[105, 110, 118, 105, 116, 101]⟩ : ByteArray), (⟨#[107, 105, 99, 107]⟩ : ByteArray), (⟨#[114, 101, 100, 97, 99, 116]⟩ : ByteArray), (⟨#[115, 116, 97, 116, 101, 95, 100, 101, 102, 97, 117, 108, 116]⟩ : ByteArray), (⟨#[117, 115, 101, 114, 115]⟩ : ByteArray), (⟨#[117, 115, 101, 114, 115, 95, 100, 101, 102, 97, 117, 108, 116]⟩ : ByteArray)] : List ByteArray)) (([true, true, true, rdOf false bt1335.1 6, true, true, true, true, true] : List Bool))).bind fun t1371 => (some (t1371, false))) else (none)) else (if a1.toList = ([109, 46, 114, 111, 111, 109, 46, 97, 108, 105, 97, 115, 101, 115] : List UInt8) then (if 3 < (bt1335.1.length : Int) then ((sealringref32_some.f k (([(⟨#[97, 108, 105, 97, 115, 101, 115]⟩ : ByteArray)] : List ByteArray)) (([rdOf false bt1335.1 3] : List Bool))).bind fun t1381 => (some (t1381, false))) else (none)) else (if a1.toList = ([109, 46, 114, 111, 111, 109, 46, 104, 105, 115, 116, 111, 114, 121, 95, 118, 105, 115, 105, 98, 105, 108, 105, 116, 121] : List UInt8) then (some ((([(⟨#[104, 105, 115, 116, 111, 114, 121, 95, 118, 105, 115, 105, 98, 105, 108, 105, 116, 121]⟩ : ByteArray)] : List ByteArray)), false)) else (if a1.toList = ([109, 46, 114, 111, 111, 109, 46, 114, 101, 100, 97, 99, 116, 105, 111, 110] : List UInt8) then (if 6 < (bt1335.1.length : Int) then ((sealringref32_some.f k (([(⟨#[114, 101, 100, 97, 99, 116, 115]⟩ : ByteArray)] : List ByteArray)) (([rdOf false bt1335.1 6] : List Bool))).bind fun t1394 => (some (t1394, false))) else (none)) else (some (([] : List ByteArray), false))))))))) else (some (([] : List ByteArray), false)))) = some (r1, r2) := h
  clear h
  replace H := Option.bind_eq_some_iff.mp H
  obtain ⟨⟨t1335, t1336⟩, A30, H⟩ := H
  replace H : (if t1336 = true then (if a1.toList = ([109, 46, 114, 111, 111, 109, 46, 109, 101, 109, 98, 101, 114] : List UInt8) then (if 5 < (t1335.length : Int) then (if 6 < (t1335.length : Int) then ((sealringref32_some.f k (([(⟨#[106, 111, 105, 110, 95, 97, 117, 116, 104, 111, 114, 105, 115, 101, 100, 95, 118, 105, 97, 95, 117, 115, 101, 114, 115, 95, 115, 101, 114, 118, 101, 114]⟩ : ByteArray), (⟨#[109, 101, 109, 98, 101, 114, 115, 104, 105, 112]⟩ : ByteArray), (⟨#[116, 104, 105, 114, 100, 95, 112, 97, 114, 116, 121, 95, 105, 110, 118, 105, 116, 101]⟩ : ByteArray)] : List ByteArray)) (([rdOf false t1335 5, true, rdOf false t1335 6] : List Bool))).bind fun t1347 => (some (t1347, false))) else (none)) else (none)) else (if a1.toList = ([109, 46, 114, 111, 111, 109, 46, 99, 114, 101, 97, 116, 101] : List UInt8) then (if 6 < (t1335.length : Int) then (if rdOf false t1335 6 = true then (some (([] : List ByteArray), true)) else (some ((([(⟨#[99, 114, 101, 97, 116, 111, 114]⟩ : ByteArray)] : List ByteArray)), false))) else (none)) else (if a1.toList = ([109, 46, 114, 111, 111, 109, 46, 106, 111, 105, 110, 95, 114, 117, 108, 101, 115] : List UInt8) then (if 4 < (t1335.length : Int) then ((sealringref32_some.f k (([(⟨#[97, 108, 108, 111, 119]⟩ : ByteArray), (⟨#[106, 111, 105, 110, 95, 114, 117, 108, 101]⟩ : ByteArray)] : List ByteArray)) (([rdOf false t1335 4, true] : List Bool))).bind fun t1361 => (some (t1361, false))) else (none)) else (if a1.toList = ([109, 46, 114, 111, 111, 109, 46, 112, 111, 119, 101, 114, 95, 108, 101, 118, 101, 108, 115] : List UInt8) then (if 6 < (t1335.length : Int) then ((sealringref32_some.f k (([(⟨#[98, 97, 110]⟩ : ByteArray), (⟨#[101, 118, 101, 110, 116, 115]⟩ : ByteArray), (⟨#[101, 118, 101, 110, 116, 115, 95, 100, 101, 102, 97, 117, 108, 116]⟩ : ByteArray), (⟨#[105, 110, 118, 105, 116, 101]⟩ : ByteArray), (⟨#[107, 105, 99, 107]⟩ : ByteArray), (⟨#[114, 101, 100, 97, 99, 116]⟩ : ByteArray), (⟨#[115, 116, 97, 116, 101, 95, 100, 101, 102, 97, 117, 108, 116]⟩ : ByteArray), (⟨#[117, 115, 101, 114, 115]⟩ : ByteArray), (⟨#[117, 115, 101, 114, 115, 95, 100, 101, 102, 97, 117, 108, 116]⟩ : ByteArray)] : List ByteArray)) (([true, true, true, rdOf false t1335 6, true, true, true, true, true] : List Bool))).bind fun t1371 => (some (t1371, false))) else (none)) else (if a1.toList = ([109, 46, 114, 111, 111, 109, 46, 97, 108, 105, 97, 115, 101, 115] : List UInt8) then (if 3 < (t1335.length : Int) then ((sealringref32_some.f k (([(⟨#[97, 108, 105, 97, 115, 101, 115]⟩ : ByteArray)] : List ByteArray)) (([rdOf false t1335 3] : List Bool))).bind fun t1381 => (some (t1381, false))) else (none)) else (if a1.toList = ([109, 46, 114, 111, 111, 109, 46, 104, 105, 115, 116, 111, 114, 121, 95, 118, 105, 115, 105, 98, 105, 108, 105, 116, 121] : List UInt8) then (some ((([(⟨#[104, 105, 115, 116, 111, 114, 121, 95, 118, 105, 115, 105, 98, 105, 108, 105, 116, 121]⟩ : ByteArray)] : List ByteArray)), false)) else (if a1.toList = ([109, 46, 114, 111, 111, 109, 46, 114, 101, 100, 97, 99, 116, 105, 111, 110] : List UInt8) then (if 6 < (t1335.length : Int) then ((sealringref32_some.f k (([(⟨#[114, 101, 100, 97, 99, 116, 115]⟩ : ByteArray)] : List ByteArray)) (([rdOf false t1335 6] : List Bool))).bind fun t1394 => (some (t1394, false))) else (none)) else (some (([] : List ByteArray), false))))))))) else (some (([] : List ByteArray), false))) = some (r1, r2) := H
  have A3 := Aside0.mk A30
  clear A30
  by_cases c4 : t1336 = true
  · subst c4
    have H1 : (if a1.toList = ([109, 46, 114, 111, 111, 109, 46, 109, 101, 109, 98, 101, 114] : List UInt8) then (if 5 < (t1335.length : Int) then (if 6 < (t1335.length : Int) then ((sealringref32_some.f k (([(⟨#[106, 111, 105, 110, 95, 97, 117, 116, 104, 111, 114, 105, 115, 101, 100, 95, 118, 105, 97, 95, 117, 115, 101, 114, 115, 95, 115, 101, 114, 118, 101, 114]⟩ : ByteArray), (⟨#[109, 101, 109, 98, 101, 114, 115, 104, 105, 112]⟩ : ByteArray), (⟨#[116, 104, 105, 114, 100, 95, 112, 97, 114, 116, 121, 95, 105, 110, 118, 105, 116, 101]⟩ : ByteArray)] : List ByteArray)) (([rdOf false t1335 5, true, rdOf false t1335 6] : List Bool))).bind fun t1347 => (some (t1347, false))) else (none)) else (none)) else (if a1.toList = ([109, 46, 114, 111, 111, 109, 46, 99, 114, 101, 97, 116, 101] : List UInt8) then (if 6 < (t1335.length : Int) then (if rdOf false t1335 6 = true then (some (([] : List ByteArray), true)) else (some ((([(⟨#[99, 114, 101, 97, 116, 111, 114]⟩ : ByteArray)] : List ByteArray)), false))) else (none)) else (if a1.toList = ([109, 46, 114, 111, 111, 109, 46, 106, 111, 105, 110, 95, 114, 117, 108, 101, 115] : List UInt8) then (if 4 < (t1335.length : Int) then ((sealringref32_some.f k (([(⟨#[97, 108, 108, 111, 119]⟩ : ByteArray), (⟨#[106, 111, 105, 110, 95, 114, 117, 108, 101]⟩ : ByteArray)] : List ByteArray)) (([rdOf false t1335 4, true] : List Bool))).bind fun t1361 => (some (t1361, false))) else (none)) else (if a1.toList = ([109, 46, 114, 111, 111, 109, 46, 112, 111, 119, 101, 114, 95, 108, 101, 118, 101, 108, 115] : List UInt8) then (if 6 < (t1335.length : Int) then ((sealringref32_some.f k (([(⟨#[98, 97, 110]⟩ : ByteArray), (⟨#[101, 118, 101, 110, 116, 115]⟩ : ByteArray), (⟨#[101, 118, 101, 110, 116, 115, 95, 100, 101, 102, 97, 117, 108, 116]⟩ : ByteArray), (⟨#[105, 110, 118, 105, 116, 101]⟩ : ByteArray), (⟨#[107, 105, 99, 107]⟩ : ByteArray), (⟨#[114, 101, 100, 97, 99, 116]⟩ : ByteArray), (⟨#[115, 116, 97, 116, 101, 95, 100, 101, 102, 97, 117, 108, 116]⟩ : ByteArray), (⟨#[117, 115, 101, 114, 115]⟩ : ByteArray), (⟨#[117, 115, 101, 114, 115, 95, 100, 101, 102, 97, 117, 108, 116]⟩ : ByteArray)] : List ByteArray)) (([true, true, true, rdOf false t1335 6, true, true, true, true, true] : List Bool))).bind fun t1371 => (some (t1371, false))) else (none)) else (if a1.toList = ([109, 46, 114, 111, 111, 109, 46, 97, 108, 105, 97, 115, 101, 115] : List UInt8) then (if 3 < (t1335.length : Int) then ((sealringref32_some.f k (([(⟨#[97, 108, 105, 97, 115, 101, 115]⟩ : ByteArray)] : List ByteArray)) (([rdOf false t1335 3] : List Bool))).bind fun t1381 => (some (t1381, false))) else (none)) else (if a1.toList = ([109, 46, 114, 111, 111, 109, 46, 104, 105, 115, 116, 111, 114, 121, 95, 118, 105, 115, 105, 98, 105, 108, 105, 116, 121] : List UInt8) then (some ((([(⟨#[104, 105, 115, 116, 111, 114, 121, 95, 118, 105, 115, 105, 98, 105, 108, 105, 116, 121]⟩ : ByteArray)] : List ByteArray)), false)) else (if a1.toList = ([109, 46, 114, 111, 111, 109, 46, 114, 101, 100, 97, 99, 116, 105, 111, 110] : List UInt8) then (if 6 < (t1335.length : Int) then ((sealringref32_some.f k (([(⟨#[114, 101, 100, 97, 99, 116, 115]⟩ : ByteArray)] : List ByteArray)) (([rdOf false t1335 6] : List Bool))).bind fun t1394 => (some (t1394, false))) else (none)) else (some (([] : List ByteArray), false))))))))) = some (r1, r2) := by rw [if_pos rfl] at H; exact H
    clear H
    have H := H1
    clear H1
    by_cases c5 : a1.toList = ([109, 46, 114, 111, 111, 109, 46, 109, 101, 109, 98, 101, 114] : List UInt8)
    · rw [if_pos c5] at H
      have c5b0 : (a1.toList == ([109, 46, 114, 111, 111, 109, 46, 109, 101, 109, 98, 101, 114] : List UInt8)) = true := beq_iff_eq.mpr c5
      have c5b1 : (a1.toList != ([109, 46, 114, 111, 111, 109, 46, 109, 101, 109, 98, 101, 114] : List UInt8)) = false := bne_eq_false_iff_eq.mpr c5
      clear c5
      obtain ⟨y1339, hy1339⟩ : ∃ y_ : List ByteArray, y_ = (([(⟨#[106, 111, 105, 110, 95, 97, 117, 116, 104, 111, 114, 105, 115, 101, 100, 95, 118, 105, 97, 95, 117, 115, 101, 114, 115, 95, 115, 101, 114, 118, 101, 114]⟩ : ByteArray), (⟨#[109, 101, 109, 98, 101, 114, 115, 104, 105, 112]⟩ : ByteArray), (⟨#[116, 104, 105, 114, 100, 95, 112, 97, 114, 116, 121, 95, 105, 110, 118, 105, 116, 101]⟩ : ByteArray)] : List ByteArray)) := ⟨_, rfl⟩
      replace H : (if 5 < (t1335.length : Int) then (if 6 < (t1335.length : Int) then ((sealringref32_some.f k y1339 (([rdOf false t1335 5, true, rdOf false t1335 6] : List Bool))).bind fun t1347 => (some (t1347, false))) else (none)) else (none)) = some (r1, r2) := by first | (rw [hy1339]; with_reducible exact H) | (have H2_ := (Option.bind_some _ _).symm.trans H; rw [hy1339]; with_reducible exact H2_) | (have H2_ := (Option.bind_some _ _).symm.trans H; with_reducible exact H2_) | with_reducible exact H | (rw [hy1339]; exact H) | exact H
      have Ny1339 := Aside0.mk hy1339
      clear hy1339
      by_cases c6 : 5 < (t1335.length : Int)
      · rw [if_pos c6] at H
        have c6b0 : decide (5 < (t1335.length : Int)) = true := decide_eq_true c6
        have c6b1 : decide (5 < t1335.length) = true := decide_eq_true (by omega)
        clear c6
        by_cases c7 : 6 < (t1335.length : Int)
        · rw [if_pos c7] at H
          have c7b0 : decide (6 < (t1335.length : Int)) = true := decide_eq_true c7
          have c7b1 : decide (6 < t1335.length) = true := decide_eq_true (by omega)
          clear c7
          obtain ⟨y1344, hy1344⟩ : ∃ y_ : List Bool, y_ = (([rdOf false t1335 5, true, rdOf false t1335 6] : List Bool)) := ⟨_, rfl⟩
          replace H : ((sealringref32_some.f k y1339 y1344).bind fun t1347 => (some (t1347, false))) = some (r1, r2) := by first | (rw [hy1344]; with_reducible exact H) | (have H2_ := (Option.bind_some _ _).symm.trans H; rw [hy1344]; with_reducible exact H2_) | (have H2_ := (Option.bind_some _ _).symm.trans H; with_reducible exact H2_) | with_reducible exact H | (rw [hy1344]; exact H) | exact H
          have Ny1344 := Aside0.mk hy1344
          clear hy1344
          replace H := Option.bind_eq_some_iff.mp H
          obtain ⟨t1347, A80, H⟩ := H
          replace H : (some (t1347, false)) = some (r1, r2) := H
          have A8 := Aside0.mk A80
          clear A80
          simp only [Option.some.injEq, Prod.mk.injEq] at H
          obtain ⟨rfl, rfl⟩ := H
          go_enter Try.func55, Try.ntmps55
          try go_wp2_with (first | ((with_reducible refine gate_callee (f := 104) rfl ?_); refine goesL_ (some 10) rfl rfl Try.func104 (by kernel_rfl) rfl #[.int .i64 a0] rfl (by (try simp only [List.map_toArray, List.map_cons, List.map_nil]); first | done | rfl | (simp only [List.length_drop, List.length_take]; rfl)) ?_; (with_reducible refine (sealringref26_Of.calls a0 t1335 true _ A3.out).mono ?_); rintro e w9 ⟨v1337, rfl, ho0, hb⟩; refine ⟨_, rfl, ?_⟩; have n0_ := Aside0.mk (Kd.R_lower ho0 (below_size (by repeat (first | (with_reducible first | exact HB.out | apply below_alloc | apply pw_below_drewN | apply below_drew1) | exact HB.out)))); have n1_ := Aside0.mk (below_step (by repeat (first | (with_reducible first | exact HB.out | apply below_alloc | apply pw_below_drewN | apply below_drew1) | exact HB.out)) hb); clear HB; have HO1338 := n0_; have HB := n1_; clear n0_ n1_; (try clear hb); (try clear hb2); (try clear hk); (try clear hi); (try clear ho0)))
          have n0_ := Aside0.mk (Kd.R_drew HO1338.out)
          have n1_ := Aside0.mk (below_drew1 HB.out)
          clear HO1338
          clear HB
          have HO1338 := n0_
          have HB := n1_
          clear n0_ n1_
          obtain ⟨Ao11, co11, eo11⟩ := Kd.R_slice HO1338.out
          (first | subst eo11 | (injection eo11 with f1_ f2_ f3_; have f4_ := f1_.symm; have f5_ := f3_.symm; clear f1_ f2_ f3_; subst f4_; subst f5_))
          have p1342 : 0 ≤ (5 : Int) := (by omega)
          have q1342 : 5 < (t1335.length : Int) := of_decide_eq_true (by first | (with_reducible assumption) | assumption)
          obtain ⟨ad1342, e1342, hx1342_0⟩ := Kd.at_bool (Kd.R_reads' HO1338.out).2.2 5 p1342 q1342
          cases e1342
          (try simp only [show (5 : Int).toNat = 5 from rfl, Nat.reduceMul, Nat.reduceEqDiff, Go.Addr.add, ↓reduceIte] at hx1342_0)
          have qi1342 : (5 < t1335.length) = True := eq_true (by omega)
          (try rw [show ((5 : Int)).toNat = 5 from rfl] at hx1342_0)
          replace p1342 := eq_true p1342
          replace q1342 := eq_true q1342
          have p1343 : 0 ≤ (6 : Int) := (by omega)
          have q1343 : 6 < (t1335.length : Int) := of_decide_eq_true (by first | (with_reducible assumption) | assumption)
          obtain ⟨ad1343, e1343, hx1343_0⟩ := Kd.at_bool (Kd.R_reads' HO1338.out).2.2 6 p1343 q1343
          obtain rfl : ad1342 = ad1343 := (by injection e1343)
          (try simp only [show (6 : Int).toNat = 6 from rfl, Nat.reduceMul, Nat.reduceEqDiff, Go.Addr.add, ↓reduceIte] at hx1343_0)
          have qi1343 : (6 < t1335.length) = True := eq_true (by omega)
          (try rw [show ((6 : Int)).toNat = 6 from rfl] at hx1343_0)
          replace p1343 := eq_true p1343
          replace q1343 := eq_true q1343
          refine start_ (n := 11) (S := fun w' => True) (ds := []) #[false, false, false, false, false, false, false, false, false, false, false] (by kernel_rfl) rfl rfl trivial (fun hHeld => ?_); refine with_tabW sealringref32_Content.tab6 sealringref32_Content.bits6 (fun HT_ HW_ => ?_)
          generalize w9.drew = w10 at HO1338 HB hx1342_0 hx1343_0 hHeld ⊢
          refine pure_ (i := 1) (N := some 19) (v := ?_) (a' := ?_) #[false, true, false, false, false, false, false, false, false, false, false] rfl rfl (any_of HT_.out (by kernel_rfl)) (fun _ _ _ h => h) (Or.inl ⟨by rfl, ?_⟩) ?_ ?_
          rotate_left
          · intro w'
            go_simp
            with_reducible rfl
          rotate_left
          · simp only [Act.put, List.setIfInBounds_toArray, List.set_cons_zero, List.set_cons_succ, i64_w, i32_w]
            rfl
          refine pure_ (i := 4) (N := some 22) (v := ?_) (a' := ?_) #[false, true, false, false, true, false, false, false, false, false, false] rfl rfl (any_of HT_.out (by kernel_rfl)) (fun _ _ _ h => h) (Or.inl ⟨by rfl, ?_⟩) ?_ ?_
          rotate_left
          · intro w'
            go_simp
            with_reducible rfl
          rotate_left
          · simp only [Act.put, List.setIfInBounds_toArray, List.set_cons_zero, List.set_cons_succ, i64_w, i32_w]
            rfl
          refine inv_at [0, 2, 3, 5, 6, 7, 8, 9, 10] (fun a0_ b a w' => ∃ (v1340 : Value) (v1345 : Value) (v1348 : Value) (m9_ : Value), a = putSel a0_ b [(0, 18, v1340), (2, 20, .pointer (some (ad1342.add 5))), (3, 21, .bool (rdOf false t1335 5)), (5, 23, .pointer (some (ad1342.add 6))), (6, 24, .bool (rdOf false t1335 6)), (7, 25, v1345), (8, 26, v1348), (9, 4, m9_), (10, 5, .bool false)] ∧ (Kd.R Kd.bool 4 w' w.heap.size (fun _ => True) (.slice (some ad1342) t1335.length co11) t1335) ∧ (Below w.heap.size w w') ∧ (b 0 = true → Kd.R Kd.string 9 w' w.heap.size (fun _ => True) v1340 y1339) ∧ (b 7 = true → Kd.R Kd.bool 4 w' w.heap.size (fun k_ => some k_ ≠ (.slice (some ad1342) t1335.length co11 : Value).ownBlock) v1345 y1344) ∧ (b 8 = true → Kd.R Kd.string 9 w' w.heap.size (fun _ => True) v1348 t1347) ∧ (b 9 = true → (m9_ : Value) = v1348)) HT_.out HW_.out (by kernel_rfl) (by kernel_rfl) ?_ ?_ ?_
          · exact ⟨.bool false, .bool false, .bool false, .bool false, by simp only [putSel, Bool.false_eq_true, if_false], HO1338.out, HB.out, fun h_ => absurd h_ (by decide), fun h_ => absurd h_ (by decide), fun h_ => absurd h_ (by decide), fun h_ => absurd h_ (by decide)⟩
          · skip
            clear HB HO1338
            refine steps_cons ?_ ?_
            · rintro b a w' ⟨v1340, v1345, v1348, m9_, ha, Q_HO1338, Q_HB, Q_HO1341, Q_HO1346, Q_HO1349, Q_X9_⟩ hb_ hon hoff
              refine ⟨_, rfl, fun K hK => ?_⟩
              replace ha := Aside0.mk ha
              have HO1338 := Aside0.mk Q_HO1338
              have HB := Aside0.mk Q_HB
              refine Kd.R_lit_step Kd.string _ 9 ?hg (N := 18) ?hd (xs := ([(⟨#[106, 111, 105, 110, 95, 97, 117, 116, 104, 111, 114, 105, 115, 101, 100, 95, 118, 105, 97, 95, 117, 115, 101, 114, 115, 95, 115, 101, 114, 118, 101, 114]⟩ : ByteArray), (⟨#[109, 101, 109, 98, 101, 114, 115, 104, 105, 112]⟩ : ByteArray), (⟨#[116, 104, 105, 114, 100, 95, 112, 97, 114, 116, 121, 95, 105, 110, 118, 105, 116, 101]⟩ : ByteArray)] : List ByteArray)) (inner := [.string (⟨#[106, 111, 105, 110, 95, 97, 117, 116, 104, 111, 114, 105, 115, 101, 100, 95, 118, 105, 97, 95, 117, 115, 101, 114, 115, 95, 115, 101, 114, 118, 101, 114]⟩ : ByteArray), .string (⟨#[109, 101, 109, 98, 101, 114, 115, 104, 105, 112]⟩ : ByteArray), .string (⟨#[116, 104, 105, 114, 100, 95, 112, 97, 114, 116, 121, 95, 105, 110, 118, 105, 116, 101]⟩ : ByteArray)]) (ok := fun _ => True) (okp := fun _ => True) ?hr ?hp (fun _ hk => hk) trivial (Below.refl _ _) (Nat.le_refl _) (by simp) ?_; (case hd => rfl); (case hg => rfl); (case hr => first | (go_simp; done) | (go_simp; rfl)); (case hp => exact (Reps.one (show Kd.M Kd.string _ _ _ (⟨#[106, 111, 105, 110, 95, 97, 117, 116, 104, 111, 114, 105, 115, 101, 100, 95, 118, 105, 97, 95, 117, 115, 101, 114, 115, 95, 115, 101, 114, 118, 101, 114]⟩ : ByteArray) [.string (⟨#[106, 111, 105, 110, 95, 97, 117, 116, 104, 111, 114, 105, 115, 101, 100, 95, 118, 105, 97, 95, 117, 115, 101, 114, 115, 95, 115, 101, 114, 118, 101, 114]⟩ : ByteArray)] from rfl) (Reps.one (show Kd.M Kd.string _ _ _ (⟨#[109, 101, 109, 98, 101, 114, 115, 104, 105, 112]⟩ : ByteArray) [.string (⟨#[109, 101, 109, 98, 101, 114, 115, 104, 105, 112]⟩ : ByteArray)] from rfl) (Reps.one (show Kd.M Kd.string _ _ _ (⟨#[116, 104, 105, 114, 100, 95, 112, 97, 114, 116, 121, 95, 105, 110, 118, 105, 116, 101]⟩ : ByteArray) [.string (⟨#[116, 104, 105, 114, 100, 95, 112, 97, 114, 116, 121, 95, 105, 110, 118, 105, 116, 101]⟩ : ByteArray)] from rfl) (Reps.none _ _)))))
              intro v1340 w12 ho13 hb hg_ hnew_
              clear hg_ hnew_
              (first | rw [← Ny1339.out] at ho13 | (simp only [Int.reduceToNat] at ho13; rw [← Ny1339.out] at ho13))
              have n0_ := Aside0.mk (Kd.R_below (by (with_reducible repeat (first | apply Kd.R_alloc | apply Kd.R_drewN | apply Kd.R_drew)); exact HO1338.out) hb)
              have n1_ := Aside0.mk (Kd.R_lower ho13 (below_size (by repeat (first | (with_reducible first | exact HB.out | apply below_alloc | apply pw_below_drewN | apply below_drew1) | exact HB.out))))
              have n2_ := Aside0.mk (below_step (by repeat (first | (with_reducible first | exact HB.out | apply below_alloc | apply pw_below_drewN | apply below_drew1) | exact HB.out)) hb)
              have z_HO1346 := fun (h0_ : b 7 = true) => (show Kd.R Kd.bool 4 w12 w.heap.size (fun k_ => some k_ ≠ (.slice (some ad1342) t1335.length co11 : Value).ownBlock) v1345 y1344 from by first | exact (Kd.R_below (by (with_reducible repeat (first | apply Kd.R_alloc | apply Kd.R_drewN | apply Kd.R_drew)); exact (Q_HO1346 h0_)) hb) | exact Kd.R_mono (Kd.R_below (by (with_reducible repeat (first | apply Kd.R_alloc | apply Kd.R_drewN | apply Kd.R_drew)); exact (Q_HO1346 h0_)) hb) (fun _ h_ => by first | trivial | exact h_ | exact h_.1))
              clear HO1338
              clear HB
              have HO1338 := n0_
              have HO1341 := n1_
              have HB := n2_
              clear n0_ n1_ n2_
              clear hb ho13
              refine hK.out _ _ ⟨v1340, v1345, v1348, m9_, (by rw [ha.out]; exact putSel_upk 0 hb_ rfl rfl rfl), (by (with_reducible repeat (first | apply Kd.R_alloc | apply Kd.R_drewN | apply Kd.R_drew)); exact HO1338.out), (by repeat (first | (with_reducible first | exact HB.out | apply below_alloc | apply pw_below_drewN | apply below_drew1) | exact HB.out)), fun _ => (by (with_reducible repeat (first | apply Kd.R_alloc | apply Kd.R_drewN | apply Kd.R_drew)); exact HO1341.out), z_HO1346, fun h0_ => absurd ((hoff 8 (by kernel_rfl)).symm.trans h0_) (by decide), fun h0_ => absurd ((hoff 9 (by kernel_rfl)).symm.trans h0_) (by decide)⟩
            refine steps_cons ?_ ?_
            · rintro b a w' ⟨v1340, v1345, v1348, m9_, ha, Q_HO1338, Q_HB, Q_HO1341, Q_HO1346, Q_HO1349, Q_X9_⟩ hb_ hon hoff
              refine ⟨_, rfl, fun K hK => ?_⟩
              have e19 : a.tmps[19]? = some (.slice (some ad1342) t1335.length co11) := by rw [ha]; exact (putSel_off rfl).trans rfl
              replace ha := Aside0.mk ha
              have HO1338 := Aside0.mk Q_HO1338
              have HB := Aside0.mk Q_HB
              refine value_ (w1 := w') (v := .pointer (some (ad1342.add 5))) (by rfl) rfl ?_ ?_
              · go_simp
                (try simp only [i64_w])
                try rfl
              refine hK.out _ _ ⟨v1340, v1345, v1348, m9_, (by rw [ha.out]; exact putSel_upk 1 hb_ rfl rfl rfl), Q_HO1338, Q_HB, Q_HO1341, fun h0_ => absurd ((hoff 7 (by kernel_rfl)).symm.trans h0_) (by decide), fun h0_ => absurd ((hoff 8 (by kernel_rfl)).symm.trans h0_) (by decide), fun h0_ => absurd ((hoff 9 (by kernel_rfl)).symm.trans h0_) (by decide)⟩
            refine steps_cons ?_ ?_
            · rintro b a w' ⟨v1340, v1345, v1348, m9_, ha, Q_HO1338, Q_HB, Q_HO1341, Q_HO1346, Q_HO1349, Q_X9_⟩ hb_ hon hoff
              refine ⟨_, rfl, fun K hK => ?_⟩
              have e20 : a.tmps[20]? = some (.pointer (some (ad1342.add 5))) := by rw [ha]; exact putSel_on (e := (2, 20, .pointer (some (ad1342.add 5)))) 1 rfl rfl (hon 2 (by kernel_rfl)) rfl
              replace ha := Aside0.mk ha
              have HO1338 := Aside0.mk Q_HO1338
              have HB := Aside0.mk Q_HB
              obtain ⟨ad1342_z, e1342_z, hx1342_0_z⟩ := Kd.at_bool (Kd.R_reads' HO1338.out).2.2 5 (of_eq_true p1342) (of_eq_true q1342)
              cases e1342_z
              have hs0_ : w'.cell? ⟨ad1342.block, ad1342.off + 5, none⟩ = some (.bool (rdOf false t1335 5)) := (by first | exact hx1342_0_z | (have h_ := hx1342_0_z; (try simp only [Int.reduceToNat, Nat.zero_mul, Nat.reduceMul, Nat.reduceEqDiff, Go.Addr.add, ↓reduceIte, Addr.add_zero'] at h_); exact h_))
              refine value_ (w1 := w') (v := .bool (rdOf false t1335 5)) (by rfl) rfl ?_ ?_
              · go_simp
                (try simp only [i64_w])
                try rfl
              refine hK.out _ _ ⟨v1340, v1345, v1348, m9_, (by rw [ha.out]; exact putSel_upk 2 hb_ rfl rfl rfl), Q_HO1338, Q_HB, Q_HO1341, fun h0_ => absurd ((hoff 7 (by kernel_rfl)).symm.trans h0_) (by decide), fun h0_ => absurd ((hoff 8 (by kernel_rfl)).symm.trans h0_) (by decide), fun h0_ => absurd ((hoff 9 (by kernel_rfl)).symm.trans h0_) (by decide)⟩
            refine steps_cons ?_ ?_
            · rintro b a w' ⟨v1340, v1345, v1348, m9_, ha, Q_HO1338, Q_HB, Q_HO1341, Q_HO1346, Q_HO1349, Q_X9_⟩ hb_ hon hoff
              refine ⟨_, rfl, fun K hK => ?_⟩
              have e22 : a.tmps[22]? = some (.slice (some ad1342) t1335.length co11) := by rw [ha]; exact (putSel_off rfl).trans rfl
              replace ha := Aside0.mk ha
              have HO1338 := Aside0.mk Q_HO1338
              have HB := Aside0.mk Q_HB
              refine value_ (w1 := w') (v := .pointer (some (ad1342.add 6))) (by rfl) rfl ?_ ?_
              · go_simp
                (try simp only [i64_w])
                try rfl
              refine hK.out _ _ ⟨v1340, v1345, v1348, m9_, (by rw [ha.out]; exact putSel_upk 3 hb_ rfl rfl rfl), Q_HO1338, Q_HB, Q_HO1341, fun h0_ => absurd ((hoff 7 (by kernel_rfl)).symm.trans h0_) (by decide), fun h0_ => absurd ((hoff 8 (by kernel_rfl)).symm.trans h0_) (by decide), fun h0_ => absurd ((hoff 9 (by kernel_rfl)).symm.trans h0_) (by decide)⟩
            refine steps_cons ?_ ?_
            · rintro b a w' ⟨v1340, v1345, v1348, m9_, ha, Q_HO1338, Q_HB, Q_HO1341, Q_HO1346, Q_HO1349, Q_X9_⟩ hb_ hon hoff
              refine ⟨_, rfl, fun K hK => ?_⟩
              have e23 : a.tmps[23]? = some (.pointer (some (ad1342.add 6))) := by rw [ha]; exact putSel_on (e := (5, 23, .pointer (some (ad1342.add 6)))) 3 rfl rfl (hon 5 (by kernel_rfl)) rfl
              replace ha := Aside0.mk ha
              have HO1338 := Aside0.mk Q_HO1338
              have HB := Aside0.mk Q_HB
              obtain ⟨ad1343_z, e1343_z, hx1343_0_z⟩ := Kd.at_bool (Kd.R_reads' HO1338.out).2.2 6 (of_eq_true p1343) (of_eq_true q1343)
              cases e1343_z
              have hs1_ : w'.cell? ⟨ad1342.block, ad1342.off + 6, none⟩ = some (.bool (rdOf false t1335 6)) := (by first | exact hx1343_0_z | (have h_ := hx1343_0_z; (try simp only [Int.reduceToNat, Nat.zero_mul, Nat.reduceMul, Nat.reduceEqDiff, Go.Addr.add, ↓reduceIte, Addr.add_zero'] at h_); exact h_))
              refine value_ (w1 := w') (v := .bool (rdOf false t1335 6)) (by rfl) rfl ?_ ?_
              · go_simp
                (try simp only [i64_w])
                try rfl
              refine hK.out _ _ ⟨v1340, v1345, v1348, m9_, (by rw [ha.out]; exact putSel_upk 4 hb_ rfl rfl rfl), Q_HO1338, Q_HB, Q_HO1341, fun h0_ => absurd ((hoff 7 (by kernel_rfl)).symm.trans h0_) (by decide), fun h0_ => absurd ((hoff 8 (by kernel_rfl)).symm.trans h0_) (by decide), fun h0_ => absurd ((hoff 9 (by kernel_rfl)).symm.trans h0_) (by decide)⟩
            refine steps_cons ?_ ?_
            · rintro b a w' ⟨v1340, v1345, v1348, m9_, ha, Q_HO1338, Q_HB, Q_HO1341, Q_HO1346, Q_HO1349, Q_X9_⟩ hb_ hon hoff
              refine ⟨_, rfl, fun K hK => ?_⟩
              have e21 : a.tmps[21]? = some (.bool (rdOf false t1335 5)) := by rw [ha]; exact putSel_on (e := (3, 21, .bool (rdOf false t1335 5))) 2 rfl rfl (hon 3 (by kernel_rfl)) rfl
              have e24 : a.tmps[24]? = some (.bool (rdOf false t1335 6)) := by rw [ha]; exact putSel_on (e := (6, 24, .bool (rdOf false t1335 6))) 4 rfl rfl (hon 6 (by kernel_rfl)) rfl
              replace ha := Aside0.mk ha
              have HO1338 := Aside0.mk Q_HO1338
              have HB := Aside0.mk Q_HB
              refine Kd.R_lit_step Kd.bool _ 4 ?hg (N := 25) ?hd (xs := ([rdOf false t1335 5, true, rdOf false t1335 6] : List Bool)) (inner := [.bool (rdOf false t1335 5), .bool true, .bool (rdOf false t1335 6)]) (ok := fun _ => True) (okp := fun _ => True) ?hr ?hp (fun _ hk => hk) trivial (Below.refl _ _) (Nat.le_refl _) (by simp) ?_; (case hd => rfl); (case hg => rfl); (case hr => first | (go_simp; done) | (go_simp; rfl)); (case hp => exact (Reps.one (show Kd.M Kd.bool _ _ _ (rdOf false t1335 5) [.bool (rdOf false t1335 5)] from rfl) (Reps.one (show Kd.M Kd.bool _ _ _ true [.bool true] from rfl) (Reps.one (show Kd.M Kd.bool _ _ _ (rdOf false t1335 6) [.bool (rdOf false t1335 6)] from rfl) (Reps.none _ _)))))
              intro v1345 w12 ho13 hb hg_ hnew_
              clear hg_ hnew_
              (first | rw [← Ny1344.out] at ho13 | (simp only [Int.reduceToNat] at ho13; rw [← Ny1344.out] at ho13))
              have n0_ := Aside0.mk (Kd.R_elder' (by (with_reducible repeat (first | apply Kd.R_alloc | apply Kd.R_drewN | apply Kd.R_drew)); exact HO1338.out) (Kd.R_base ho13) hb)
              have n1_ := Aside0.mk (Kd.R_lower (Kd.R_new' ho13 (Kd.R_lt (by (with_reducible repeat (first | apply Kd.R_alloc | apply Kd.R_drewN | apply Kd.R_drew)); exact HO1338.out))) (below_size (by repeat (first | (with_reducible first | exact HB.out | apply below_alloc | apply pw_below_drewN | apply below_drew1) | exact HB.out))))
              have n2_ := Aside0.mk (below_step (by repeat (first | (with_reducible first | exact HB.out | apply below_alloc | apply pw_below_drewN | apply below_drew1) | exact HB.out)) hb)
              have z_HO1341 := fun (h0_ : b 0 = true) => (show Kd.R Kd.string 9 w12 w.heap.size (fun _ => True) v1340 y1339 from by first | exact (Kd.R_below (by (with_reducible repeat (first | apply Kd.R_alloc | apply Kd.R_drewN | apply Kd.R_drew)); exact (Q_HO1341 h0_)) hb) | exact Kd.R_mono (Kd.R_below (by (with_reducible repeat (first | apply Kd.R_alloc | apply Kd.R_drewN | apply Kd.R_drew)); exact (Q_HO1341 h0_)) hb) (fun _ h_ => by first | trivial | exact h_ | exact h_.1))
              clear HO1338
              clear HB
              have HO1338 := n0_
              have HO1346 := n1_
              have HB := n2_
              clear n0_ n1_ n2_
              clear hb ho13
              refine hK.out _ _ ⟨v1340, v1345, v1348, m9_, (by rw [ha.out]; exact putSel_upk 5 hb_ rfl rfl rfl), (by (with_reducible repeat (first | apply Kd.R_alloc | apply Kd.R_drewN | apply Kd.R_drew)); first | exact Kd.R_mono HO1338.out (fun _ hk => hk.2) | exact Kd.R_mono HO1338.out (fun _ _ => trivial)), (by repeat (first | (with_reducible first | exact HB.out | apply below_alloc | apply pw_below_drewN | apply below_drew1) | exact HB.out)), z_HO1341, fun _ => (by (with_reducible repeat (first | apply Kd.R_alloc | apply Kd.R_drewN | apply Kd.R_drew)); first | exact Kd.R_mono HO1346.out (fun _ hk => hk.2) | exact Kd.R_mono HO1346.out (fun _ _ => trivial)), fun h0_ => absurd ((hoff 8 (by kernel_rfl)).symm.trans h0_) (by decide), fun h0_ => absurd ((hoff 9 (by kernel_rfl)).symm.trans h0_) (by decide)⟩
            refine steps_cons ?_ ?_
            · rintro b a w' ⟨v1340, v1345, v1348, m9_, ha, Q_HO1338, Q_HB, Q_HO1341, Q_HO1346, Q_HO1349, Q_X9_⟩ hb_ hon hoff
              refine ⟨_, rfl, fun K hK => ?_⟩
              have e18 : a.tmps[18]? = some (v1340) := by rw [ha]; exact putSel_on (e := (0, 18, v1340)) 0 rfl rfl (hon 0 (by kernel_rfl)) rfl
              have e25 : a.tmps[25]? = some (v1345) := by rw [ha]; exact putSel_on (e := (7, 25, v1345)) 5 rfl rfl (hon 7 (by kernel_rfl)) rfl
              replace ha := Aside0.mk ha
              have HO1338 := Aside0.mk Q_HO1338
              have HB := Aside0.mk Q_HB
              have HO1341 := Aside0.mk (Q_HO1341 (hon 0 (by kernel_rfl)))
              have HO1346 := Aside0.mk (Q_HO1346 (hon 7 (by kernel_rfl)))
              obtain ⟨Ao17, co17, eo17⟩ := Kd.R_slice HO1341.out
              (first | subst eo17 | (injection eo17 with f1_ f2_ f3_; have f4_ := f1_.symm; have f5_ := f3_.symm; clear f1_ f2_ f3_; subst f4_; subst f5_))
              obtain ⟨Ao18, co18, eo18⟩ := Kd.R_slice HO1346.out
              (first | subst eo18 | (injection eo18 with f1_ f2_ f3_; have f4_ := f1_.symm; have f5_ := f3_.symm; clear f1_ f2_ f3_; subst f4_; subst f5_))
              refine goes_ Try.func105 (by kernel_rfl) rfl #[.slice Ao17 y1339.length co17, .slice Ao18 y1344.length co18] (by rfl) rfl rfl (by first | (simp only [List.map_toArray, List.map_cons, List.map_nil, Act.eval, Array.getD_eq_getD_getElem?, Option.getD_some, e18, e25]; done) | (simp only [List.map_toArray, List.map_cons, List.map_nil, Act.eval, Array.getD_eq_getD_getElem?, Option.getD_some, e18, e25]; rfl)) ?_
              with_reducible refine (sealringref32_some.calls k _ _ y1339 _ _ y1344 t1347 _ ?side1 ?side2 ?side3 ?side4 A8.out).mono ?_
              (case side1 => repeat (first | exact (Kd.R_reads' HO1341.out).2.2 | (with_reducible refine Kd.C_alloc ?_ _) | (with_reducible refine Kd.C_drewN ?_ _) | (with_reducible refine Kd.C_drew ?_)))
              (case side2 => exact (Kd.R_reads' HO1341.out).2.1)
              (case side3 => repeat (first | exact (Kd.R_reads' HO1346.out).2.2 | (with_reducible refine Kd.C_alloc ?_ _) | (with_reducible refine Kd.C_drewN ?_ _) | (with_reducible refine Kd.C_drew ?_)))
              (case side4 => exact (Kd.R_reads' HO1346.out).2.1)
              rintro e w19 ⟨v1348, rfl, ho0, hb⟩
              refine ⟨_, rfl, ?_⟩
              have n0_ := Aside0.mk (Kd.R_below (by (with_reducible repeat (first | apply Kd.R_alloc | apply Kd.R_drewN | apply Kd.R_drew)); exact HO1338.out) hb)
              have n1_ := Aside0.mk (Kd.R_elder' (by (with_reducible repeat (first | apply Kd.R_alloc | apply Kd.R_drewN | apply Kd.R_drew)); exact HO1341.out) (Kd.R_base ho0) hb)
              have n2_ := Aside0.mk (Kd.R_below (by (with_reducible repeat (first | apply Kd.R_alloc | apply Kd.R_drewN | apply Kd.R_drew)); exact HO1346.out) hb)
              have n3_ := Aside0.mk (Kd.R_lower (Kd.R_new' ho0 (Kd.R_lt (by (with_reducible repeat (first | apply Kd.R_alloc | apply Kd.R_drewN | apply Kd.R_drew)); exact HO1341.out))) (below_size (by repeat (first | (with_reducible first | exact HB.out | apply below_alloc | apply pw_below_drewN | apply below_drew1) | exact HB.out))))
              have n4_ := Aside0.mk (below_step (by repeat (first | (with_reducible first | exact HB.out | apply below_alloc | apply pw_below_drewN | apply below_drew1) | exact HB.out)) hb)
              clear HO1338
              clear HO1341
              clear HO1346
              clear HB
              have HO1338 := n0_
              have HO1341 := n1_
              have HO1346 := n2_
              have HO1349 := n3_
              have HB := n4_
              clear n0_ n1_ n2_ n3_ n4_
              (try clear hb)
              (try clear hb2)
              (try clear hk)
              (try clear hi)
              (try clear ho0)
              refine hK.out _ _ ⟨.slice Ao17 y1339.length co17, .slice Ao18 y1344.length co18, v1348, m9_, (by rw [ha.out]; exact putSel_upk 6 hb_ rfl rfl rfl), (by (with_reducible repeat (first | apply Kd.R_alloc | apply Kd.R_drewN | apply Kd.R_drew)); exact HO1338.out), (by repeat (first | (with_reducible first | exact HB.out | apply below_alloc | apply pw_below_drewN | apply below_drew1) | exact HB.out)), fun _ => (by (with_reducible repeat (first | apply Kd.R_alloc | apply Kd.R_drewN | apply Kd.R_drew)); first | exact Kd.R_mono HO1341.out (fun _ hk => hk.2) | exact Kd.R_mono HO1341.out (fun _ _ => trivial)), fun _ => (by (with_reducible repeat (first | apply Kd.R_alloc | apply Kd.R_drewN | apply Kd.R_drew)); exact HO1346.out), fun _ => (by (with_reducible repeat (first | apply Kd.R_alloc | apply Kd.R_drewN | apply Kd.R_drew)); first | exact Kd.R_mono HO1349.out (fun _ hk => hk.2) | exact Kd.R_mono HO1349.out (fun _ _ => trivial)), fun h0_ => absurd ((hoff 9 (by kernel_rfl)).symm.trans h0_) (by decide)⟩
            refine steps_cons ?_ ?_
            · rintro b a w' ⟨v1340, v1345, v1348, m9_, ha, Q_HO1338, Q_HB, Q_HO1341, Q_HO1346, Q_HO1349, Q_X9_⟩ hb_ hon hoff
              refine ⟨_, rfl, fun K hK => ?_⟩
              have e26 : a.tmps[26]? = some (v1348) := by rw [ha]; exact putSel_on (e := (8, 26, v1348)) 6 rfl rfl (hon 8 (by kernel_rfl)) rfl
              replace ha := Aside0.mk ha
              have HO1338 := Aside0.mk Q_HO1338
              have HB := Aside0.mk Q_HB
              have HO1341 := Aside0.mk (Q_HO1341 (hon 0 (by kernel_rfl)))
              have HO1346 := Aside0.mk (Q_HO1346 (hon 7 (by kernel_rfl)))
              have HO1349 := Aside0.mk (Q_HO1349 (hon 8 (by kernel_rfl)))
              refine value_ (w1 := w') (v := v1348) (by rfl) rfl ?_ ?_
              · go_simp
                (try simp only [i64_w])
                try rfl
              refine hK.out _ _ ⟨v1340, v1345, v1348, (v1348), (by rw [ha.out]; exact putSel_upk 7 hb_ rfl rfl rfl), Q_HO1338, Q_HB, Q_HO1341, Q_HO1346, Q_HO1349, fun _ => rfl⟩
            refine steps_cons ?_ ?_
            · rintro b a w' ⟨v1340, v1345, v1348, m9_, ha, Q_HO1338, Q_HB, Q_HO1341, Q_HO1346, Q_HO1349, Q_X9_⟩ hb_ hon hoff
              refine ⟨_, rfl, fun K hK => ?_⟩
              replace ha := Aside0.mk ha
              have HO1338 := Aside0.mk Q_HO1338
              have HB := Aside0.mk Q_HB
              have HO1341 := Aside0.mk (Q_HO1341 (hon 0 (by kernel_rfl)))
              have HO1346 := Aside0.mk (Q_HO1346 (hon 7 (by kernel_rfl)))
              have HO1349 := Aside0.mk (Q_HO1349 (hon 8 (by kernel_rfl)))
              refine value_ (w1 := w') (v := .bool false) (by rfl) rfl ?_ ?_
              · go_simp
                (try simp only [i64_w])
                try rfl
              refine hK.out _ _ ⟨v1340, v1345, v1348, m9_, (by rw [ha.out]; exact putSel_upk 8 hb_ rfl rfl rfl), Q_HO1338, Q_HB, Q_HO1341, Q_HO1346, Q_HO1349, Q_X9_⟩
            exact steps_nil
          rintro b a w19 hall ⟨v1340, v1345, v1348, m9_, ha, Q_HO1338, Q_HB, Q_HO1341, Q_HO1346, Q_HO1349, Q_X9_⟩
          clear HB HO1338
          have hb0_ := hall 0 (by kernel_rfl)
          have hb2_ := hall 2 (by kernel_rfl)
          have hb3_ := hall 3 (by kernel_rfl)
          have hb5_ := hall 5 (by kernel_rfl)
          have hb6_ := hall 6 (by kernel_rfl)
          have hb7_ := hall 7 (by kernel_rfl)
          have hb8_ := hall 8 (by kernel_rfl)
          have hb9_ := hall 9 (by kernel_rfl)
          have hb10_ := hall 10 (by kernel_rfl)
          subst ha
          obtain rfl := Q_X9_ hb9_
          simp only [putSel, hb0_, hb2_, hb3_, hb5_, hb6_, hb7_, hb8_, hb9_, hb10_, if_true, Act.put, List.setIfInBounds_toArray, List.set_cons_zero, List.set_cons_succ]
          have HO1338 := Aside0.mk Q_HO1338
          clear Q_HO1338
          have HB := Aside0.mk Q_HB
          clear Q_HB
          have HO1341 := Aside0.mk (Q_HO1341 hb0_)
          clear Q_HO1341
          have HO1346 := Aside0.mk (Q_HO1346 hb7_)
          clear Q_HO1346
          have HO1349 := Aside0.mk (Q_HO1349 hb8_)
          clear Q_HO1349
          clear hall hb0_ hb2_ hb3_ hb5_ hb6_ hb7_ hb8_ hb9_ hb10_
          try go_wp2
          go_ret2
          exact ⟨_, by first | rfl | (simp [errW_none, errW_some] <;> rfl) | (simp [*, errW_none, errW_some] <;> rfl), by (with_reducible repeat (first | apply Kd.R_alloc | apply Kd.R_drewN | apply Kd.R_drew)); exact Kd.R_mono HO1349.out (fun _ hk => trivial), by repeat (first | (with_reducible first | exact HB.out | apply below_alloc | apply pw_below_drewN | apply below_drew1) | exact HB.out)⟩
        · rw [if_neg c7] at H
          exact absurd H (by simp)
      · rw [if_neg c6] at H
        exact absurd H (by simp)
    · rw [if_neg c5] at H
      have c5b0 : (a1.toList == ([109, 46, 114, 111, 111, 109, 46, 109, 101, 109, 98, 101, 114] : List UInt8)) = false := beq_eq_false_iff_ne.mpr c5
      have c5b1 : (a1.toList != ([109, 46, 114, 111, 111, 109, 46, 109, 101, 109, 98, 101, 114] : List UInt8)) = true := bne_iff_ne.mpr c5
      by_cases c20 : a1.toList = ([109, 46, 114, 111, 111, 109, 46, 99, 114, 101, 97, 116, 101] : List UInt8)
      · rw [if_pos c20] at H
        have c20b0 : (a1.toList == ([109, 46, 114, 111, 111, 109, 46, 99, 114, 101, 97, 116, 101] : List UInt8)) = true := beq_iff_eq.mpr c20
        have c20b1 : (a1.toList != ([109, 46, 114, 111, 111, 109, 46, 99, 114, 101, 97, 116, 101] : List UInt8)) = false := bne_eq_false_iff_eq.mpr c20
        clear c20
        by_cases c21 : 6 < (t1335.length : Int)
        · rw [if_pos c21] at H
          have c21b0 : decide (6 < (t1335.length : Int)) = true := decide_eq_true c21
          have c21b1 : decide (6 < t1335.length) = true := decide_eq_true (by omega)
          clear c21
          obtain ⟨bq22, hbq22⟩ : ∃ b_ : Bool, b_ = (rdOf false t1335 6) := ⟨_, rfl⟩
          replace H : (if bq22 = true then (some (([] : List ByteArray), true)) else (some ((([(⟨#[99, 114, 101, 97, 116, 111, 114]⟩ : ByteArray)] : List ByteArray)), false))) = some (r1, r2) := by rw [← hbq22] at H; exact H
          have Nbq22 := Aside0.mk hbq22
          clear hbq22
          by_cases c23 : bq22 = true
          · subst c23
            have H1 : (some (([] : List ByteArray), true)) = some (r1, r2) := by rw [if_pos rfl] at H; exact H
            clear H
            have H := H1
            clear H1
            simp only [Option.some.injEq, Prod.mk.injEq] at H
            obtain ⟨rfl, rfl⟩ := H
            go_enter Try.func55, Try.ntmps55
            go_wp2_with (first | ((with_reducible refine gate_callee (f := 104) rfl ?_); refine goesL_ (some 10) rfl rfl Try.func104 (by kernel_rfl) rfl #[.int .i64 a0] rfl (by (try simp only [List.map_toArray, List.map_cons, List.map_nil]); first | done | rfl | (simp only [List.length_drop, List.length_take]; rfl)) ?_; (with_reducible refine (sealringref26_Of.calls a0 t1335 true _ A3.out).mono ?_); rintro e w24 ⟨v1337, rfl, ho0, hb⟩; refine ⟨_, rfl, ?_⟩; have n0_ := Aside0.mk (Kd.R_lower ho0 (below_size (by repeat (first | (with_reducible first | exact HB.out | apply below_alloc | apply pw_below_drewN | apply below_drew1) | exact HB.out)))); have n1_ := Aside0.mk (below_step (by repeat (first | (with_reducible first | exact HB.out | apply below_alloc | apply pw_below_drewN | apply below_drew1) | exact HB.out)) hb); clear HB; have HO1338 := n0_; have HB := n1_; clear n0_ n1_; (try clear hb); (try clear hb2); (try clear hk); (try clear hi); (try clear ho0); obtain ⟨Ao25, co25, eo25⟩ := Kd.R_slice HO1338.out; subst eo25; have p1350 : 0 ≤ (6 : Int) := (by omega); have q1350 : 6 < (t1335.length : Int) := of_decide_eq_true (by first | (with_reducible assumption) | assumption); obtain ⟨ad1350, e1350, hx1350_0⟩ := Kd.at_bool (Kd.R_reads' HO1338.out).2.2 6 p1350 q1350; (try rw [← Nbq22.out] at hx1350_0); cases e1350; (try simp only [show (6 : Int).toNat = 6 from rfl, Nat.reduceMul, Nat.reduceEqDiff, Go.Addr.add, ↓reduceIte] at hx1350_0); have qi1350 : (6 < t1335.length) = True := eq_true (by omega); (try rw [show ((6 : Int)).toNat = 6 from rfl] at hx1350_0); replace p1350 := eq_true p1350; replace q1350 := eq_true q1350))
            go_ret2
            exact ⟨_, by first | rfl | (simp [errW_none, errW_some] <;> rfl) | (simp [*, errW_none, errW_some] <;> rfl), by first | exact Kd.R_nil _ _ _ _ _ | exact Kd.N_nil _ _ _ _ _ | exact Kd.V_nil _ _ _ _ _ | exact Kd.Q_nil _ _ _ _ _ | exact Kd.S_nil _ _ _ _ _, by repeat (first | (with_reducible first | exact HB.out | apply below_alloc | apply pw_below_drewN | apply below_drew1) | exact HB.out)⟩
          · replace c23 := Bool.eq_false_iff.mpr c23
            subst c23
            have H1 : (some ((([(⟨#[99, 114, 101, 97, 116, 111, 114]⟩ : ByteArray)] : List ByteArray)), false)) = some (r1, r2) := by rw [if_neg (show ¬ (false = true) by decide)] at H; exact H
            clear H
            have H := H1
            clear H1
            obtain ⟨y1351, hy1351⟩ : ∃ y_ : List ByteArray, y_ = (([(⟨#[99, 114, 101, 97, 116, 111, 114]⟩ : ByteArray)] : List ByteArray)) := ⟨_, rfl⟩
            replace H : (some (y1351, false)) = some (r1, r2) := by first | (rw [hy1351]; with_reducible exact H) | (have H2_ := (Option.bind_some _ _).symm.trans H; rw [hy1351]; with_reducible exact H2_) | (have H2_ := (Option.bind_some _ _).symm.trans H; with_reducible exact H2_) | with_reducible exact H | (rw [hy1351]; exact H) | exact H
            have Ny1351 := Aside0.mk hy1351
            clear hy1351
            simp only [Option.some.injEq, Prod.mk.injEq] at H
            obtain ⟨rfl, rfl⟩ := H
            go_enter Try.func55, Try.ntmps55
            go_wp2_with (first | ((with_reducible refine gate_callee (f := 104) rfl ?_); refine goesL_ (some 10) rfl rfl Try.func104 (by kernel_rfl) rfl #[.int .i64 a0] rfl (by (try simp only [List.map_toArray, List.map_cons, List.map_nil]); first | done | rfl | (simp only [List.length_drop, List.length_take]; rfl)) ?_; (with_reducible refine (sealringref26_Of.calls a0 t1335 true _ A3.out).mono ?_); rintro e w26 ⟨v1337, rfl, ho0, hb⟩; refine ⟨_, rfl, ?_⟩; have n0_ := Aside0.mk (Kd.R_lower ho0 (below_size (by repeat (first | (with_reducible first | exact HB.out | apply below_alloc | apply pw_below_drewN | apply below_drew1) | exact HB.out)))); have n1_ := Aside0.mk (below_step (by repeat (first | (with_reducible first | exact HB.out | apply below_alloc | apply pw_below_drewN | apply below_drew1) | exact HB.out)) hb); clear HB; have HO1338 := n0_; have HB := n1_; clear n0_ n1_; (try clear hb); (try clear hb2); (try clear hk); (try clear hi); (try clear ho0); obtain ⟨Ao27, co27, eo27⟩ := Kd.R_slice HO1338.out; subst eo27; have p1350 : 0 ≤ (6 : Int) := (by omega); have q1350 : 6 < (t1335.length : Int) := of_decide_eq_true (by first | (with_reducible assumption) | assumption); obtain ⟨ad1350, e1350, hx1350_0⟩ := Kd.at_bool (Kd.R_reads' HO1338.out).2.2 6 p1350 q1350; (try rw [← Nbq22.out] at hx1350_0); cases e1350; (try simp only [show (6 : Int).toNat = 6 from rfl, Nat.reduceMul, Nat.reduceEqDiff, Go.Addr.add, ↓reduceIte] at hx1350_0); have qi1350 : (6 < t1335.length) = True := eq_true (by omega); (try rw [show ((6 : Int)).toNat = 6 from rfl] at hx1350_0); replace p1350 := eq_true p1350; replace q1350 := eq_true q1350) | ((with_reducible refine gate_dst (N := 32) rfl ?_); refine Kd.R_lit Kd.string _ 9 ?hg (N := 32) ?hd (xs := ([(⟨#[99, 114, 101, 97, 116, 111, 114]⟩ : ByteArray)] : List ByteArray)) (inner := [.string (⟨#[99, 114, 101, 97, 116, 111, 114]⟩ : ByteArray)]) (ok := fun _ => True) (okp := fun _ => True) ?hr ?hp (fun _ hk => hk) trivial (Below.refl _ _) (Nat.le_refl _) (by simp) ?_; (case hd => rfl); (case hg => rfl); (case hr => first | (go_simp; done) | (go_simp; rfl)); (case hp => exact (Reps.one (show Kd.M Kd.string _ _ _ (⟨#[99, 114, 101, 97, 116, 111, 114]⟩ : ByteArray) [.string (⟨#[99, 114, 101, 97, 116, 111, 114]⟩ : ByteArray)] from rfl) (Reps.none _ _))); intro v1352 w28 ho29 hb hg_ hnew_; clear hg_ hnew_; (first | rw [← Ny1351.out] at ho29 | (simp only [Int.reduceToNat] at ho29; rw [← Ny1351.out] at ho29)); have n0_ := Aside0.mk (Kd.R_below (by (with_reducible repeat (first | apply Kd.R_alloc | apply Kd.R_drewN | apply Kd.R_drew)); exact HO1338.out) hb); have n1_ := Aside0.mk (Kd.R_lower ho29 (below_size (by repeat (first | (with_reducible first | exact HB.out | apply below_alloc | apply pw_below_drewN | apply below_drew1) | exact HB.out)))); have n2_ := Aside0.mk (below_step (by repeat (first | (with_reducible first | exact HB.out | apply below_alloc | apply pw_below_drewN | apply below_drew1) | exact HB.out)) hb); clear HO1338; clear HB; have HO1338 := n0_; have HO1353 := n1_; have HB := n2_; clear n0_ n1_ n2_; clear hb ho29))
            go_ret2
            exact ⟨_, by first | rfl | (simp [errW_none, errW_some] <;> rfl) | (simp [*, errW_none, errW_some] <;> rfl), by (with_reducible repeat (first | apply Kd.R_alloc | apply Kd.R_drewN | apply Kd.R_drew)); exact HO1353.out, by repeat (first | (with_reducible first | exact HB.out | apply below_alloc | apply pw_below_drewN | apply below_drew1) | exact HB.out)⟩
        · rw [if_neg c21] at H
          exact absurd H (by simp)
      · rw [if_neg c20] at H
        have c20b0 : (a1.toList == ([109, 46, 114, 111, 111, 109, 46, 99, 114, 101, 97, 116, 101] : List UInt8)) = false := beq_eq_false_iff_ne.mpr c20
        have c20b1 : (a1.toList != ([109, 46, 114, 111, 111, 109, 46, 99, 114, 101, 97, 116, 101] : List UInt8)) = true := bne_iff_ne.mpr c20
        by_cases c30 : a1.toList = ([109, 46, 114, 111, 111, 109, 46, 106, 111, 105, 110, 95, 114, 117, 108, 101, 115] : List UInt8)
        · rw [if_pos c30] at H
          have c30b0 : (a1.toList == ([109, 46, 114, 111, 111, 109, 46, 106, 111, 105, 110, 95, 114, 117, 108, 101, 115] : List UInt8)) = true := beq_iff_eq.mpr c30
          have c30b1 : (a1.toList != ([109, 46, 114, 111, 111, 109, 46, 106, 111, 105, 110, 95, 114, 117, 108, 101, 115] : List UInt8)) = false := bne_eq_false_iff_eq.mpr c30
          clear c30
          obtain ⟨y1354, hy1354⟩ : ∃ y_ : List ByteArray, y_ = (([(⟨#[97, 108, 108, 111, 119]⟩ : ByteArray), (⟨#[106, 111, 105, 110, 95, 114, 117, 108, 101]⟩ : ByteArray)] : List ByteArray)) := ⟨_, rfl⟩
          replace H : (if 4 < (t1335.length : Int) then ((sealringref32_some.f k y1354 (([rdOf false t1335 4, true] : List Bool))).bind fun t1361 => (some (t1361, false))) else (none)) = some (r1, r2) := by first | (rw [hy1354]; with_reducible exact H) | (have H2_ := (Option.bind_some _ _).symm.trans H; rw [hy1354]; with_reducible exact H2_) | (have H2_ := (Option.bind_some _ _).symm.trans H; with_reducible exact H2_) | with_reducible exact H | (rw [hy1354]; exact H) | exact H
          have Ny1354 := Aside0.mk hy1354
          clear hy1354
          by_cases c31 : 4 < (t1335.length : Int)
          · rw [if_pos c31] at H
            have c31b0 : decide (4 < (t1335.length : Int)) = true := decide_eq_true c31
            have c31b1 : decide (4 < t1335.length) = true := decide_eq_true (by omega)
            clear c31
            obtain ⟨y1358, hy1358⟩ : ∃ y_ : List Bool, y_ = (([rdOf false t1335 4, true] : List Bool)) := ⟨_, rfl⟩
            replace H : ((sealringref32_some.f k y1354 y1358).bind fun t1361 => (some (t1361, false))) = some (r1, r2) := by first | (rw [hy1358]; with_reducible exact H) | (have H2_ := (Option.bind_some _ _).symm.trans H; rw [hy1358]; with_reducible exact H2_) | (have H2_ := (Option.bind_some _ _).symm.trans H; with_reducible exact H2_) | with_reducible exact H | (rw [hy1358]; exact H) | exact H
            have Ny1358 := Aside0.mk hy1358
            clear hy1358
            replace H := Option.bind_eq_some_iff.mp H
            obtain ⟨t1361, A320, H⟩ := H
            replace H : (some (t1361, false)) = some (r1, r2) := H
            have A32 := Aside0.mk A320
            clear A320
            simp only [Option.some.injEq, Prod.mk.injEq] at H
            obtain ⟨rfl, rfl⟩ := H
            go_enter Try.func55, Try.ntmps55
            go_wp2_with (first | ((with_reducible refine gate_callee (f := 104) rfl ?_); refine goesL_ (some 10) rfl rfl Try.func104 (by kernel_rfl) rfl #[.int .i64 a0] rfl (by (try simp only [List.map_toArray, List.map_cons, List.map_nil]); first | done | rfl | (simp only [List.length_drop, List.length_take]; rfl)) ?_; (with_reducible refine (sealringref26_Of.calls a0 t1335 true _ A3.out).mono ?_); rintro e w33 ⟨v1337, rfl, ho0, hb⟩; refine ⟨_, rfl, ?_⟩; have n0_ := Aside0.mk (Kd.R_lower ho0 (below_size (by repeat (first | (with_reducible first | exact HB.out | apply below_alloc | apply pw_below_drewN | apply below_drew1) | exact HB.out)))); have n1_ := Aside0.mk (below_step (by repeat (first | (with_reducible first | exact HB.out | apply below_alloc | apply pw_below_drewN | apply below_drew1) | exact HB.out)) hb); clear HB; have HO1338 := n0_; have HB := n1_; clear n0_ n1_; (try clear hb); (try clear hb2); (try clear hk); (try clear hi); (try clear ho0)) | ((with_reducible refine gate_dst (N := 35) rfl ?_); refine Kd.R_lit Kd.string _ 9 ?hg (N := 35) ?hd (xs := ([(⟨#[97, 108, 108, 111, 119]⟩ : ByteArray), (⟨#[106, 111, 105, 110, 95, 114, 117, 108, 101]⟩ : ByteArray)] : List ByteArray)) (inner := [.string (⟨#[97, 108, 108, 111, 119]⟩ : ByteArray), .string (⟨#[106, 111, 105, 110, 95, 114, 117, 108, 101]⟩ : ByteArray)]) (ok := fun _ => True) (okp := fun _ => True) ?hr ?hp (fun _ hk => hk) trivial (Below.refl _ _) (Nat.le_refl _) (by simp) ?_; (case hd => rfl); (case hg => rfl); (case hr => first | (go_simp; done) | (go_simp; rfl)); (case hp => exact (Reps.one (show Kd.M Kd.string _ _ _ (⟨#[97, 108, 108, 111, 119]⟩ : ByteArray) [.string (⟨#[97, 108, 108, 111, 119]⟩ : ByteArray)] from rfl) (Reps.one (show Kd.M Kd.string _ _ _ (⟨#[106, 111, 105, 110, 95, 114, 117, 108, 101]⟩ : ByteArray) [.string (⟨#[106, 111, 105, 110, 95, 114, 117, 108, 101]⟩ : ByteArray)] from rfl) (Reps.none _ _)))); intro v1355 w34 ho35 hb hg_ hnew_; clear hg_ hnew_; (first | rw [← Ny1354.out] at ho35 | (simp only [Int.reduceToNat] at ho35; rw [← Ny1354.out] at ho35)); have n0_ := Aside0.mk (Kd.R_below (by (with_reducible repeat (first | apply Kd.R_alloc | apply Kd.R_drewN | apply Kd.R_drew)); exact HO1338.out) hb); have n1_ := Aside0.mk (Kd.R_lower ho35 (below_size (by repeat (first | (with_reducible first | exact HB.out | apply below_alloc | apply pw_below_drewN | apply below_drew1) | exact HB.out)))); have n2_ := Aside0.mk (below_step (by repeat (first | (with_reducible first | exact HB.out | apply below_alloc | apply pw_below_drewN | apply below_drew1) | exact HB.out)) hb); clear HO1338; clear HB; have HO1338 := n0_; have HO1356 := n1_; have HB := n2_; clear n0_ n1_ n2_; clear hb ho35; obtain ⟨Ao36, co36, eo36⟩ := Kd.R_slice HO1338.out; subst eo36; have p1357 : 0 ≤ (4 : Int) := (by omega); have q1357 : 4 < (t1335.length : Int) := of_decide_eq_true (by first | (with_reducible assumption) | assumption); obtain ⟨ad1357, e1357, hx1357_0⟩ := Kd.at_bool (Kd.R_reads' HO1338.out).2.2 4 p1357 q1357; cases e1357; (try simp only [show (4 : Int).toNat = 4 from rfl, Nat.reduceMul, Nat.reduceEqDiff, Go.Addr.add, ↓reduceIte] at hx1357_0); have qi1357 : (4 < t1335.length) = True := eq_true (by omega); (try rw [show ((4 : Int)).toNat = 4 from rfl] at hx1357_0); replace p1357 := eq_true p1357; replace q1357 := eq_true q1357) | ((with_reducible refine gate_dst (N := 39) rfl ?_); refine Kd.R_lit Kd.bool _ 4 ?hg (N := 39) ?hd (xs := ([rdOf false t1335 4, true] : List Bool)) (inner := [.bool (rdOf false t1335 4), .bool true]) (ok := fun _ => True) (okp := fun _ => True) ?hr ?hp (fun _ hk => hk) trivial (Below.refl _ _) (Nat.le_refl _) (by simp) ?_; (case hd => rfl); (case hg => rfl); (case hr => first | (go_simp; done) | (go_simp; rfl)); (case hp => exact (Reps.one (show Kd.M Kd.bool _ _ _ (rdOf false t1335 4) [.bool (rdOf false t1335 4)] from rfl) (Reps.one (show Kd.M Kd.bool _ _ _ true [.bool true] from rfl) (Reps.none _ _)))); intro v1359 w37 ho38 hb hg_ hnew_; clear hg_ hnew_; (first | rw [← Ny1358.out] at ho38 | (simp only [Int.reduceToNat] at ho38; rw [← Ny1358.out] at ho38)); have n0_ := Aside0.mk (Kd.R_elder' (by (with_reducible repeat (first | apply Kd.R_alloc | apply Kd.R_drewN | apply Kd.R_drew)); exact HO1338.out) (Kd.R_base ho38) hb); have n1_ := Aside0.mk (Kd.R_below (by (with_reducible repeat (first | apply Kd.R_alloc | apply Kd.R_drewN | apply Kd.R_drew)); exact HO1356.out) hb); have n2_ := Aside0.mk (Kd.R_lower (Kd.R_new' ho38 (Kd.R_lt (by (with_reducible repeat (first | apply Kd.R_alloc | apply Kd.R_drewN | apply Kd.R_drew)); exact HO1338.out))) (below_size (by repeat (first | (with_reducible first | exact HB.out | apply below_alloc | apply pw_below_drewN | apply below_drew1) | exact HB.out)))); have n3_ := Aside0.mk (below_step (by repeat (first | (with_reducible first | exact HB.out | apply below_alloc | apply pw_below_drewN | apply below_drew1) | exact HB.out)) hb); clear HO1338; clear HO1356; clear HB; have HO1338 := n0_; have HO1356 := n1_; have HO1360 := n2_; have HB := n3_; clear n0_ n1_ n2_ n3_; clear hb ho38; obtain ⟨Ao39, co39, eo39⟩ := Kd.R_slice HO1356.out; subst eo39; obtain ⟨Ao40, co40, eo40⟩ := Kd.R_slice HO1360.out; subst eo40) | ((with_reducible refine gate_callee (f := 105) rfl ?_); refine goesL_ (some 40) rfl rfl Try.func105 (by kernel_rfl) rfl #[.slice Ao39 y1354.length co39, .slice Ao40 y1358.length co40] rfl (by (try simp only [List.map_toArray, List.map_cons, List.map_nil]); first | done | rfl | (simp only [List.length_drop, List.length_take]; rfl)) ?_; (with_reducible refine (sealringref32_some.calls k _ _ y1354 _ _ y1358 t1361 _ ?side1 ?side2 ?side3 ?side4 A32.out).mono ?_); (case side1 => repeat (first | exact (Kd.R_reads' HO1356.out).2.2 | (with_reducible refine Kd.C_alloc ?_ _) | (with_reducible refine Kd.C_drewN ?_ _) | (with_reducible refine Kd.C_drew ?_))); (case side2 => exact (Kd.R_reads' HO1356.out).2.1); (case side3 => repeat (first | exact (Kd.R_reads' HO1360.out).2.2 | (with_reducible refine Kd.C_alloc ?_ _) | (with_reducible refine Kd.C_drewN ?_ _) | (with_reducible refine Kd.C_drew ?_))); (case side4 => exact (Kd.R_reads' HO1360.out).2.1); rintro e w41 ⟨v1362, rfl, ho0, hb⟩; refine ⟨_, rfl, ?_⟩; have n0_ := Aside0.mk (Kd.R_below (by (with_reducible repeat (first | apply Kd.R_alloc | apply Kd.R_drewN | apply Kd.R_drew)); exact HO1338.out) hb); have n1_ := Aside0.mk (Kd.R_elder' (by (with_reducible repeat (first | apply Kd.R_alloc | apply Kd.R_drewN | apply Kd.R_drew)); exact HO1356.out) (Kd.R_base ho0) hb); have n2_ := Aside0.mk (Kd.R_below (by (with_reducible repeat (first | apply Kd.R_alloc | apply Kd.R_drewN | apply Kd.R_drew)); exact HO1360.out) hb); have n3_ := Aside0.mk (Kd.R_lower (Kd.R_new' ho0 (Kd.R_lt (by (with_reducible repeat (first | apply Kd.R_alloc | apply Kd.R_drewN | apply Kd.R_drew)); exact HO1356.out))) (below_size (by repeat (first | (with_reducible first | exact HB.out | apply below_alloc | apply pw_below_drewN | apply below_drew1) | exact HB.out)))); have n4_ := Aside0.mk (below_step (by repeat (first | (with_reducible first | exact HB.out | apply below_alloc | apply pw_below_drewN | apply below_drew1) | exact HB.out)) hb); clear HO1338; clear HO1356; clear HO1360; clear HB; have HO1338 := n0_; have HO1356 := n1_; have HO1360 := n2_; have HO1363 := n3_; have HB := n4_; clear n0_ n1_ n2_ n3_ n4_; (try clear hb); (try clear hb2); (try clear hk); (try clear hi); (try clear ho0)))
            go_ret2
            exact ⟨_, by first | rfl | (simp [errW_none, errW_some] <;> rfl) | (simp [*, errW_none, errW_some] <;> rfl), by (with_reducible repeat (first | apply Kd.R_alloc | apply Kd.R_drewN | apply Kd.R_drew)); exact Kd.R_mono HO1363.out (fun _ hk => trivial), by repeat (first | (with_reducible first | exact HB.out | apply below_alloc | apply pw_below_drewN | apply below_drew1) | exact HB.out)⟩
          · rw [if_neg c31] at H
            exact absurd H (by simp)
        · rw [if_neg c30] at H
          have c30b0 : (a1.toList == ([109, 46, 114, 111, 111, 109, 46, 106, 111, 105, 110, 95, 114, 117, 108, 101, 115] : List UInt8)) = false := beq_eq_false_iff_ne.mpr c30
          have c30b1 : (a1.toList != ([109, 46, 114, 111, 111, 109, 46, 106, 111, 105, 110, 95, 114, 117, 108, 101, 115] : List UInt8)) = true := bne_iff_ne.mpr c30
          by_cases c42 : a1.toList = ([109, 46, 114, 111, 111, 109, 46, 112, 111, 119, 101, 114, 95, 108, 101, 118, 101, 108, 115] : List UInt8)
          · rw [if_pos c42] at H
            have c42b0 : (a1.toList == ([109, 46, 114, 111, 111, 109, 46, 112, 111, 119, 101, 114, 95, 108, 101, 118, 101, 108, 115] : List UInt8)) = true := beq_iff_eq.mpr c42
            have c42b1 : (a1.toList != ([109, 46, 114, 111, 111, 109, 46, 112, 111, 119, 101, 114, 95, 108, 101, 118, 101, 108, 115] : List UInt8)) = false := bne_eq_false_iff_eq.mpr c42
            clear c42
            obtain ⟨y1364, hy1364⟩ : ∃ y_ : List ByteArray, y_ = (([(⟨#[98, 97, 110]⟩ : ByteArray), (⟨#[101, 118, 101, 110, 116, 115]⟩ : ByteArray), (⟨#[101, 118, 101, 110, 116, 115, 95, 100, 101, 102, 97, 117, 108, 116]⟩ : ByteArray), (⟨#[105, 110, 118, 105, 116, 101]⟩ : ByteArray), (⟨#[107, 105, 99, 107]⟩ : ByteArray), (⟨#[114, 101, 100, 97, 99, 116]⟩ : ByteArray), (⟨#[115, 116, 97, 116, 101, 95, 100, 101, 102, 97, 117, 108, 116]⟩ : ByteArray), (⟨#[117, 115, 101, 114, 115]⟩ : ByteArray), (⟨#[117, 115, 101, 114, 115, 95, 100, 101, 102, 97, 117, 108, 116]⟩ : ByteArray)] : List ByteArray)) := ⟨_, rfl⟩
            replace H : (if 6 < (t1335.length : Int) then ((sealringref32_some.f k y1364 (([true, true, true, rdOf false t1335 6, true, true, true, true, true] : List Bool))).bind fun t1371 => (some (t1371, false))) else (none)) = some (r1, r2) := by first | (rw [hy1364]; with_reducible exact H) | (have H2_ := (Option.bind_some _ _).symm.trans H; rw [hy1364]; with_reducible exact H2_) | (have H2_ := (Option.bind_some _ _).symm.trans H; with_reducible exact H2_) | with_reducible exact H | (rw [hy1364]; exact H) | exact H
            have Ny1364 := Aside0.mk hy1364
            clear hy1364
            by_cases c43 : 6 < (t1335.length : Int)
            · rw [if_pos c43] at H
              have c43b0 : decide (6 < (t1335.length : Int)) = true := decide_eq_true c43
              have c43b1 : decide (6 < t1335.length) = true := decide_eq_true (by omega)
              clear c43
              obtain ⟨y1368, hy1368⟩ : ∃ y_ : List Bool, y_ = (([true, true, true, rdOf false t1335 6, true, true, true, true, true] : List Bool)) := ⟨_, rfl⟩
              replace H : ((sealringref32_some.f k y1364 y1368).bind fun t1371 => (some (t1371, false))) = some (r1, r2) := by first | (rw [hy1368]; with_reducible exact H) | (have H2_ := (Option.bind_some _ _).symm.trans H; rw [hy1368]; with_reducible exact H2_) | (have H2_ := (Option.bind_some _ _).symm.trans H; with_reducible exact H2_) | with_reducible exact H | (rw [hy1368]; exact H) | exact H
              have Ny1368 := Aside0.mk hy1368
              clear hy1368
              replace H := Option.bind_eq_some_iff.mp H
              obtain ⟨t1371, A440, H⟩ := H
              replace H : (some (t1371, false)) = some (r1, r2) := H
              have A44 := Aside0.mk A440
              clear A440
              simp only [Option.some.injEq, Prod.mk.injEq] at H
              obtain ⟨rfl, rfl⟩ := H
              go_enter Try.func55, Try.ntmps55
              go_wp2_with (first | ((with_reducible refine gate_callee (f := 104) rfl ?_); refine goesL_ (some 10) rfl rfl Try.func104 (by kernel_rfl) rfl #[.int .i64 a0] rfl (by (try simp only [List.map_toArray, List.map_cons, List.map_nil]); first | done | rfl | (simp only [List.length_drop, List.length_take]; rfl)) ?_; (with_reducible refine (sealringref26_Of.calls a0 t1335 true _ A3.out).mono ?_); rintro e w45 ⟨v1337, rfl, ho0, hb⟩; refine ⟨_, rfl, ?_⟩; have n0_ := Aside0.mk (Kd.R_lower ho0 (below_size (by repeat (first | (with_reducible first | exact HB.out | apply below_alloc | apply pw_below_drewN | apply below_drew1) | exact HB.out)))); have n1_ := Aside0.mk (below_step (by repeat (first | (with_reducible first | exact HB.out | apply below_alloc | apply pw_below_drewN | apply below_drew1) | exact HB.out)) hb); clear HB; have HO1338 := n0_; have HB := n1_; clear n0_ n1_; (try clear hb); (try clear hb2); (try clear hk); (try clear hi); (try clear ho0)) | ((with_reducible refine gate_dst (N := 43) rfl ?_); refine Kd.R_lit Kd.string _ 9 ?hg (N := 43) ?hd (xs := ([(⟨#[98, 97, 110]⟩ : ByteArray), (⟨#[101, 118, 101, 110, 116, 115]⟩ : ByteArray), (⟨#[101, 118, 101, 110, 116, 115, 95, 100, 101, 102, 97, 117, 108, 116]⟩ : ByteArray), (⟨#[105, 110, 118, 105, 116, 101]⟩ : ByteArray), (⟨#[107, 105, 99, 107]⟩ : ByteArray), (⟨#[114, 101, 100, 97, 99, 116]⟩ : ByteArray), (⟨#[115, 116, 97, 116, 101, 95, 100, 101, 102, 97, 117, 108, 116]⟩ : ByteArray), (⟨#[117, 115, 101, 114, 115]⟩ : ByteArray), (⟨#[117, 115, 101, 114, 115, 95, 100, 101, 102, 97, 117, 108, 116]⟩ : ByteArray)] : List ByteArray)) (inner := [.string (⟨#[98, 97, 110]⟩ : ByteArray), .string (⟨#[101, 118, 101, 110, 116, 115]⟩ : ByteArray), .string (⟨#[101, 118, 101, 110, 116, 115, 95, 100, 101, 102, 97, 117, 108, 116]⟩ : ByteArray), .string (⟨#[105, 110, 118, 105, 116, 101]⟩ : ByteArray), .string (⟨#[107, 105, 99, 107]⟩ : ByteArray), .string (⟨#[114, 101, 100, 97, 99, 116]⟩ : ByteArray), .string (⟨#[115, 116, 97, 116, 101, 95, 100, 101, 102, 97, 117, 108, 116]⟩ : ByteArray), .string (⟨#[117, 115, 101, 114, 115]⟩ : ByteArray), .string (⟨#[117, 115, 101, 114, 115, 95, 100, 101, 102, 97, 117, 108, 116]⟩ : ByteArray)]) (ok := fun _ => True) (okp := fun _ => True) ?hr ?hp (fun _ hk => hk) trivial (Below.refl _ _) (Nat.le_refl _) (by simp) ?_; (case hd => rfl); (case hg => rfl); (case hr => first | (go_simp; done) | (go_simp; rfl)); (case hp => exact (Reps.one (show Kd.M Kd.string _ _ _ (⟨#[98, 97, 110]⟩ : ByteArray) [.string (⟨#[98, 97, 110]⟩ : ByteArray)] from rfl) (Reps.one (show Kd.M Kd.string _ _ _ (⟨#[101, 118, 101, 110, 116, 115]⟩ : ByteArray) [.string (⟨#[101, 118, 101, 110, 116, 115]⟩ : ByteArray)] from rfl) (Reps.one (show Kd.M Kd.string _ _ _ (⟨#[101, 118, 101, 110, 116, 115, 95, 100, 101, 102, 97, 117, 108, 116]⟩ : ByteArray) [.string (⟨#[101, 118, 101, 110, 116, 115, 95, 100, 101, 102, 97, 117, 108, 116]⟩ : ByteArray)] from rfl) (Reps.one (show Kd.M Kd.string _ _ _ (⟨#[105, 110, 118, 105, 116, 101]⟩ : ByteArray) [.string (⟨#[105, 110, 118, 105, 116, 101]⟩ : ByteArray)] from rfl) (Reps.one (show Kd.M Kd.string _ _ _ (⟨#[107, 105, 99, 107]⟩ : ByteArray) [.string (⟨#[107, 105, 99, 107]⟩ : ByteArray)] from rfl) (Reps.one (show Kd.M Kd.string _ _ _ (⟨#[114, 101, 100, 97, 99, 116]⟩ : ByteArray) [.string (⟨#[114, 101, 100, 97, 99, 116]⟩ : ByteArray)] from rfl) (Reps.one (show Kd.M Kd.string _ _ _ (⟨#[115, 116, 97, 116, 101, 95, 100, 101, 102, 97, 117, 108, 116]⟩ : ByteArray) [.string (⟨#[115, 116, 97, 116, 101, 95, 100, 101, 102, 97, 117, 108, 116]⟩ : ByteArray)] from rfl) (Reps.one (show Kd.M Kd.string _ _ _ (⟨#[117, 115, 101, 114, 115]⟩ : ByteArray) [.string (⟨#[117, 115, 101, 114, 115]⟩ : ByteArray)] from rfl) (Reps.one (show Kd.M Kd.string _ _ _ (⟨#[117, 115, 101, 114, 115, 95, 100, 101, 102, 97, 117, 108, 116]⟩ : ByteArray) [.string (⟨#[117, 115, 101, 114, 115, 95, 100, 101, 102, 97, 117, 108, 116]⟩ : ByteArray)] from rfl) (Reps.none _ _))))))))))); intro v1365 w46 ho47 hb hg_ hnew_; clear hg_ hnew_; (first | rw [← Ny1364.out] at ho47 | (simp only [Int.reduceToNat] at ho47; rw [← Ny1364.out] at ho47)); have n0_ := Aside0.mk (Kd.R_below (by (with_reducible repeat (first | apply Kd.R_alloc | apply Kd.R_drewN | apply Kd.R_drew)); exact HO1338.out) hb); have n1_ := Aside0.mk (Kd.R_lower ho47 (below_size (by repeat (first | (with_reducible first | exact HB.out | apply below_alloc | apply pw_below_drewN | apply below_drew1) | exact HB.out)))); have n2_ := Aside0.mk (below_step (by repeat (first | (with_reducible first | exact HB.out | apply below_alloc | apply pw_below_drewN | apply below_drew1) | exact HB.out)) hb); clear HO1338; clear HB; have HO1338 := n0_; have HO1366 := n1_; have HB := n2_; clear n0_ n1_ n2_; clear hb ho47; obtain ⟨Ao48, co48, eo48⟩ := Kd.R_slice HO1338.out; subst eo48; have p1367 : 0 ≤ (6 : Int) := (by omega); have q1367 : 6 < (t1335.length : Int) := of_decide_eq_true (by first | (with_reducible assumption) | assumption); obtain ⟨ad1367, e1367, hx1367_0⟩ := Kd.at_bool (Kd.R_reads' HO1338.out).2.2 6 p1367 q1367; cases e1367; (try simp only [show (6 : Int).toNat = 6 from rfl, Nat.reduceMul, Nat.reduceEqDiff, Go.Addr.add, ↓reduceIte] at hx1367_0); have qi1367 : (6 < t1335.length) = True := eq_true (by omega); (try rw [show ((6 : Int)).toNat = 6 from rfl] at hx1367_0); replace p1367 := eq_true p1367; replace q1367 := eq_true q1367) | ((with_reducible refine gate_dst (N := 47) rfl ?_); refine Kd.R_lit Kd.bool _ 4 ?hg (N := 47) ?hd (xs := ([true, true, true, rdOf false t1335 6, true, true, true, true, true] : List Bool)) (inner := [.bool true, .bool true, .bool true, .bool (rdOf false t1335 6), .bool true, .bool true, .bool true, .bool true, .bool true]) (ok := fun _ => True) (okp := fun _ => True) ?hr ?hp (fun _ hk => hk) trivial (Below.refl _ _) (Nat.le_refl _) (by simp) ?_; (case hd => rfl); (case hg => rfl); (case hr => first | (go_simp; done) | (go_simp; rfl)); (case hp => exact (Reps.one (show Kd.M Kd.bool _ _ _ true [.bool true] from rfl) (Reps.one (show Kd.M Kd.bool _ _ _ true [.bool true] from rfl) (Reps.one (show Kd.M Kd.bool _ _ _ true [.bool true] from rfl) (Reps.one (show Kd.M Kd.bool _ _ _ (rdOf false t1335 6) [.bool (rdOf false t1335 6)] from rfl) (Reps.one (show Kd.M Kd.bool _ _ _ true [.bool true] from rfl) (Reps.one (show Kd.M Kd.bool _ _ _ true [.bool true] from rfl) (Reps.one (show Kd.M Kd.bool _ _ _ true [.bool true] from rfl) (Reps.one (show Kd.M Kd.bool _ _ _ true [.bool true] from rfl) (Reps.one (show Kd.M Kd.bool _ _ _ true [.bool true] from rfl) (Reps.none _ _))))))))))); intro v1369 w49 ho50 hb hg_ hnew_; clear hg_ hnew_; (first | rw [← Ny1368.out] at ho50 | (simp only [Int.reduceToNat] at ho50; rw [← Ny1368.out] at ho50)); have n0_ := Aside0.mk (Kd.R_elder' (by (with_reducible repeat (first | apply Kd.R_alloc | apply Kd.R_drewN | apply Kd.R_drew)); exact HO1338.out) (Kd.R_base ho50) hb); have n1_ := Aside0.mk (Kd.R_below (by (with_reducible repeat (first | apply Kd.R_alloc | apply Kd.R_drewN | apply Kd.R_drew)); exact HO1366.out) hb); have n2_ := Aside0.mk (Kd.R_lower (Kd.R_new' ho50 (Kd.R_lt (by (with_reducible repeat (first | apply Kd.R_alloc | apply Kd.R_drewN | apply Kd.R_drew)); exact HO1338.out))) (below_size (by repeat (first | (with_reducible first | exact HB.out | apply below_alloc | apply pw_below_drewN | apply below_drew1) | exact HB.out)))); have n3_ := Aside0.mk (below_step (by repeat (first | (with_reducible first | exact HB.out | apply below_alloc | apply pw_below_drewN | apply below_drew1) | exact HB.out)) hb); clear HO1338; clear HO1366; clear HB; have HO1338 := n0_; have HO1366 := n1_; have HO1370 := n2_; have HB := n3_; clear n0_ n1_ n2_ n3_; clear hb ho50; obtain ⟨Ao51, co51, eo51⟩ := Kd.R_slice HO1366.out; subst eo51; obtain ⟨Ao52, co52, eo52⟩ := Kd.R_slice HO1370.out; subst eo52) | ((with_reducible refine gate_callee (f := 105) rfl ?_); refine goesL_ (some 48) rfl rfl Try.func105 (by kernel_rfl) rfl #[.slice Ao51 y1364.length co51, .slice Ao52 y1368.length co52] rfl (by (try simp only [List.map_toArray, List.map_cons, List.map_nil]); first | done | rfl | (simp only [List.length_drop, List.length_take]; rfl)) ?_; (with_reducible refine (sealringref32_some.calls k _ _ y1364 _ _ y1368 t1371 _ ?side1 ?side2 ?side3 ?side4 A44.out).mono ?_); (case side1 => repeat (first | exact (Kd.R_reads' HO1366.out).2.2 | (with_reducible refine Kd.C_alloc ?_ _) | (with_reducible refine Kd.C_drewN ?_ _) | (with_reducible refine Kd.C_drew ?_))); (case side2 => exact (Kd.R_reads' HO1366.out).2.1); (case side3 => repeat (first | exact (Kd.R_reads' HO1370.out).2.2 | (with_reducible refine Kd.C_alloc ?_ _) | (with_reducible refine Kd.C_drewN ?_ _) | (with_reducible refine Kd.C_drew ?_))); (case side4 => exact (Kd.R_reads' HO1370.out).2.1); rintro e w53 ⟨v1372, rfl, ho0, hb⟩; refine ⟨_, rfl, ?_⟩; have n0_ := Aside0.mk (Kd.R_below (by (with_reducible repeat (first | apply Kd.R_alloc | apply Kd.R_drewN | apply Kd.R_drew)); exact HO1338.out) hb); have n1_ := Aside0.mk (Kd.R_elder' (by (with_reducible repeat (first | apply Kd.R_alloc | apply Kd.R_drewN | apply Kd.R_drew)); exact HO1366.out) (Kd.R_base ho0) hb); have n2_ := Aside0.mk (Kd.R_below (by (with_reducible repeat (first | apply Kd.R_alloc | apply Kd.R_drewN | apply Kd.R_drew)); exact HO1370.out) hb); have n3_ := Aside0.mk (Kd.R_lower (Kd.R_new' ho0 (Kd.R_lt (by (with_reducible repeat (first | apply Kd.R_alloc | apply Kd.R_drewN | apply Kd.R_drew)); exact HO1366.out))) (below_size (by repeat (first | (with_reducible first | exact HB.out | apply below_alloc | apply pw_below_drewN | apply below_drew1) | exact HB.out)))); have n4_ := Aside0.mk (below_step (by repeat (first | (with_reducible first | exact HB.out | apply below_alloc | apply pw_below_drewN | apply below_drew1) | exact HB.out)) hb); clear HO1338; clear HO1366; clear HO1370; clear HB; have HO1338 := n0_; have HO1366 := n1_; have HO1370 := n2_; have HO1373 := n3_; have HB := n4_; clear n0_ n1_ n2_ n3_ n4_; (try clear hb); (try clear hb2); (try clear hk); (try clear hi); (try clear ho0)))
              go_ret2
              exact ⟨_, by first | rfl | (simp [errW_none, errW_some] <;> rfl) | (simp [*, errW_none, errW_some] <;> rfl), by (with_reducible repeat (first | apply Kd.R_alloc | apply Kd.R_drewN | apply Kd.R_drew)); exact Kd.R_mono HO1373.out (fun _ hk => trivial), by repeat (first | (with_reducible first | exact HB.out | apply below_alloc | apply pw_below_drewN | apply below_drew1) | exact HB.out)⟩
            · rw [if_neg c43] at H
              exact absurd H (by simp)
          · rw [if_neg c42] at H
            have c42b0 : (a1.toList == ([109, 46, 114, 111, 111, 109, 46, 112, 111, 119, 101, 114, 95, 108, 101, 118, 101, 108, 115] : List UInt8)) = false := beq_eq_false_iff_ne.mpr c42
            have c42b1 : (a1.toList != ([109, 46, 114, 111, 111, 109, 46, 112, 111, 119, 101, 114, 95, 108, 101, 118, 101, 108, 115] : List UInt8)) = true := bne_iff_ne.mpr c42
            by_cases c54 : a1.toList = ([109, 46, 114, 111, 111, 109, 46, 97, 108, 105, 97, 115, 101, 115] : List UInt8)
            · rw [if_pos c54] at H
              have c54b0 : (a1.toList == ([109, 46, 114, 111, 111, 109, 46, 97, 108, 105, 97, 115, 101, 115] : List UInt8)) = true := beq_iff_eq.mpr c54
              have c54b1 : (a1.toList != ([109, 46, 114, 111, 111, 109, 46, 97, 108, 105, 97, 115, 101, 115] : List UInt8)) = false := bne_eq_false_iff_eq.mpr c54
              clear c54
              obtain ⟨y1374, hy1374⟩ : ∃ y_ : List ByteArray, y_ = (([(⟨#[97, 108, 105, 97, 115, 101, 115]⟩ : ByteArray)] : List ByteArray)) := ⟨_, rfl⟩
              replace H : (if 3 < (t1335.length : Int) then ((sealringref32_some.f k y1374 (([rdOf false t1335 3] : List Bool))).bind fun t1381 => (some (t1381, false))) else (none)) = some (r1, r2) := by first | (rw [hy1374]; with_reducible exact H) | (have H2_ := (Option.bind_some _ _).symm.trans H; rw [hy1374]; with_reducible exact H2_) | (have H2_ := (Option.bind_some _ _).symm.trans H; with_reducible exact H2_) | with_reducible exact H | (rw [hy1374]; exact H) | exact H
              have Ny1374 := Aside0.mk hy1374
              clear hy1374
              by_cases c55 : 3 < (t1335.length : Int)
              · rw [if_pos c55] at H
                have c55b0 : decide (3 < (t1335.length : Int)) = true := decide_eq_true c55
                have c55b1 : decide (3 < t1335.length) = true := decide_eq_true (by omega)
                clear c55
                obtain ⟨y1378, hy1378⟩ : ∃ y_ : List Bool, y_ = (([rdOf false t1335 3] : List Bool)) := ⟨_, rfl⟩
                replace H : ((sealringref32_some.f k y1374 y1378).bind fun t1381 => (some (t1381, false))) = some (r1, r2) := by first | (rw [hy1378]; with_reducible exact H) | (have H2_ := (Option.bind_some _ _).symm.trans H; rw [hy1378]; with_reducible exact H2_) | (have H2_ := (Option.bind_some _ _).symm.trans H; with_reducible exact H2_) | with_reducible exact H | (rw [hy1378]; exact H) | exact H
                have Ny1378 := Aside0.mk hy1378
                clear hy1378
                replace H := Option.bind_eq_some_iff.mp H
                obtain ⟨t1381, A560, H⟩ := H
                replace H : (some (t1381, false)) = some (r1, r2) := H
                have A56 := Aside0.mk A560
                clear A560
                simp only [Option.some.injEq, Prod.mk.injEq] at H
                obtain ⟨rfl, rfl⟩ := H
                go_enter Try.func55, Try.ntmps55
                go_wp2_with (first | ((with_reducible refine gate_callee (f := 104) rfl ?_); refine goesL_ (some 10) rfl rfl Try.func104 (by kernel_rfl) rfl #[.int .i64 a0] rfl (by (try simp only [List.map_toArray, List.map_cons, List.map_nil]); first | done | rfl | (simp only [List.length_drop, List.length_take]; rfl)) ?_; (with_reducible refine (sealringref26_Of.calls a0 t1335 true _ A3.out).mono ?_); rintro e w57 ⟨v1337, rfl, ho0, hb⟩; refine ⟨_, rfl, ?_⟩; have n0_ := Aside0.mk (Kd.R_lower ho0 (below_size (by repeat (first | (with_reducible first | exact HB.out | apply below_alloc | apply pw_below_drewN | apply below_drew1) | exact HB.out)))); have n1_ := Aside0.mk (below_step (by repeat (first | (with_reducible first | exact HB.out | apply below_alloc | apply pw_below_drewN | apply below_drew1) | exact HB.out)) hb); clear HB; have HO1338 := n0_; have HB := n1_; clear n0_ n1_; (try clear hb); (try clear hb2); (try clear hk); (try clear hi); (try clear ho0)) | ((with_reducible refine gate_dst (N := 51) rfl ?_); refine Kd.R_lit Kd.string _ 9 ?hg (N := 51) ?hd (xs := ([(⟨#[97, 108, 105, 97, 115, 101, 115]⟩ : ByteArray)] : List ByteArray)) (inner := [.string (⟨#[97, 108, 105, 97, 115, 101, 115]⟩ : ByteArray)]) (ok := fun _ => True) (okp := fun _ => True) ?hr ?hp (fun _ hk => hk) trivial (Below.refl _ _) (Nat.le_refl _) (by simp) ?_; (case hd => rfl); (case hg => rfl); (case hr => first | (go_simp; done) | (go_simp; rfl)); (case hp => exact (Reps.one (show Kd.M Kd.string _ _ _ (⟨#[97, 108, 105, 97, 115, 101, 115]⟩ : ByteArray) [.string (⟨#[97, 108, 105, 97, 115, 101, 115]⟩ : ByteArray)] from rfl) (Reps.none _ _))); intro v1375 w58 ho59 hb hg_ hnew_; clear hg_ hnew_; (first | rw [← Ny1374.out] at ho59 | (simp only [Int.reduceToNat] at ho59; rw [← Ny1374.out] at ho59)); have n0_ := Aside0.mk (Kd.R_below (by (with_reducible repeat (first | apply Kd.R_alloc | apply Kd.R_drewN | apply Kd.R_drew)); exact HO1338.out) hb); have n1_ := Aside0.mk (Kd.R_lower ho59 (below_size (by repeat (first | (with_reducible first | exact HB.out | apply below_alloc | apply pw_below_drewN | apply below_drew1) | exact HB.out)))); have n2_ := Aside0.mk (below_step (by repeat (first | (with_reducible first | exact HB.out | apply below_alloc | apply pw_below_drewN | apply below_drew1) | exact HB.out)) hb); clear HO1338; clear HB; have HO1338 := n0_; have HO1376 := n1_; have HB := n2_; clear n0_ n1_ n2_; clear hb ho59; obtain ⟨Ao60, co60, eo60⟩ := Kd.R_slice HO1338.out; subst eo60; have p1377 : 0 ≤ (3 : Int) := (by omega); have q1377 : 3 < (t1335.length : Int) := of_decide_eq_true (by first | (with_reducible assumption) | assumption); obtain ⟨ad1377, e1377, hx1377_0⟩ := Kd.at_bool (Kd.R_reads' HO1338.out).2.2 3 p1377 q1377; cases e1377; (try simp only [show (3 : Int).toNat = 3 from rfl, Nat.reduceMul, Nat.reduceEqDiff, Go.Addr.add, ↓reduceIte] at hx1377_0); have qi1377 : (3 < t1335.length) = True := eq_true (by omega); (try rw [show ((3 : Int)).toNat = 3 from rfl] at hx1377_0); replace p1377 := eq_true p1377; replace q1377 := eq_true q1377) | ((with_reducible refine gate_dst (N := 55) rfl ?_); refine Kd.R_lit Kd.bool _ 4 ?hg (N := 55) ?hd (xs := ([rdOf false t1335 3] : List Bool)) (inner := [.bool (rdOf false t1335 3)]) (ok := fun _ => True) (okp := fun _ => True) ?hr ?hp (fun _ hk => hk) trivial (Below.refl _ _) (Nat.le_refl _) (by simp) ?_; (case hd => rfl); (case hg => rfl); (case hr => first | (go_simp; done) | (go_simp; rfl)); (case hp => exact (Reps.one (show Kd.M Kd.bool _ _ _ (rdOf false t1335 3) [.bool (rdOf false t1335 3)] from rfl) (Reps.none _ _))); intro v1379 w61 ho62 hb hg_ hnew_; clear hg_ hnew_; (first | rw [← Ny1378.out] at ho62 | (simp only [Int.reduceToNat] at ho62; rw [← Ny1378.out] at ho62)); have n0_ := Aside0.mk (Kd.R_elder' (by (with_reducible repeat (first | apply Kd.R_alloc | apply Kd.R_drewN | apply Kd.R_drew)); exact HO1338.out) (Kd.R_base ho62) hb); have n1_ := Aside0.mk (Kd.R_below (by (with_reducible repeat (first | apply Kd.R_alloc | apply Kd.R_drewN | apply Kd.R_drew)); exact HO1376.out) hb); have n2_ := Aside0.mk (Kd.R_lower (Kd.R_new' ho62 (Kd.R_lt (by (with_reducible repeat (first | apply Kd.R_alloc | apply Kd.R_drewN | apply Kd.R_drew)); exact HO1338.out))) (below_size (by repeat (first | (with_reducible first | exact HB.out | apply below_alloc | apply pw_below_drewN | apply below_drew1) | exact HB.out)))); have n3_ := Aside0.mk (below_step (by repeat (first | (with_reducible first | exact HB.out | apply below_alloc | apply pw_below_drewN | apply below_drew1) | exact HB.out)) hb); clear HO1338; clear HO1376; clear HB; have HO1338 := n0_; have HO1376 := n1_; have HO1380 := n2_; have HB := n3_; clear n0_ n1_ n2_ n3_; clear hb ho62; obtain ⟨Ao63, co63, eo63⟩ := Kd.R_slice HO1376.out; subst eo63; obtain ⟨Ao64, co64, eo64⟩ := Kd.R_slice HO1380.out; subst eo64) | ((with_reducible refine gate_callee (f := 105) rfl ?_); refine goesL_ (some 56) rfl rfl Try.func105 (by kernel_rfl) rfl #[.slice Ao63 y1374.length co63, .slice Ao64 y1378.length co64] rfl (by (try simp only [List.map_toArray, List.map_cons, List.map_nil]); first | done | rfl | (simp only [List.length_drop, List.length_take]; rfl)) ?_; (with_reducible refine (sealringref32_some.calls k _ _ y1374 _ _ y1378 t1381 _ ?side1 ?side2 ?side3 ?side4 A56.out).mono ?_); (case side1 => repeat (first | exact (Kd.R_reads' HO1376.out).2.2 | (with_reducible refine Kd.C_alloc ?_ _) | (with_reducible refine Kd.C_drewN ?_ _) | (with_reducible refine Kd.C_drew ?_))); (case side2 => exact (Kd.R_reads' HO1376.out).2.1); (case side3 => repeat (first | exact (Kd.R_reads' HO1380.out).2.2 | (with_reducible refine Kd.C_alloc ?_ _) | (with_reducible refine Kd.C_drewN ?_ _) | (with_reducible refine Kd.C_drew ?_))); (case side4 => exact (Kd.R_reads' HO1380.out).2.1); rintro e w65 ⟨v1382, rfl, ho0, hb⟩; refine ⟨_, rfl, ?_⟩; have n0_ := Aside0.mk (Kd.R_below (by (with_reducible repeat (first | apply Kd.R_alloc | apply Kd.R_drewN | apply Kd.R_drew)); exact HO1338.out) hb); have n1_ := Aside0.mk (Kd.R_elder' (by (with_reducible repeat (first | apply Kd.R_alloc | apply Kd.R_drewN | apply Kd.R_drew)); exact HO1376.out) (Kd.R_base ho0) hb); have n2_ := Aside0.mk (Kd.R_below (by (with_reducible repeat (first | apply Kd.R_alloc | apply Kd.R_drewN | apply Kd.R_drew)); exact HO1380.out) hb); have n3_ := Aside0.mk (Kd.R_lower (Kd.R_new' ho0 (Kd.R_lt (by (with_reducible repeat (first | apply Kd.R_alloc | apply Kd.R_drewN | apply Kd.R_drew)); exact HO1376.out))) (below_size (by repeat (first | (with_reducible first | exact HB.out | apply below_alloc | apply pw_below_drewN | apply below_drew1) | exact HB.out)))); have n4_ := Aside0.mk (below_step (by repeat (first | (with_reducible first | exact HB.out | apply below_alloc | apply pw_below_drewN | apply below_drew1) | exact HB.out)) hb); clear HO1338; clear HO1376; clear HO1380; clear HB; have HO1338 := n0_; have HO1376 := n1_; have HO1380 := n2_; have HO1383 := n3_; have HB := n4_; clear n0_ n1_ n2_ n3_ n4_; (try clear hb); (try clear hb2); (try clear hk); (try clear hi); (try clear ho0)))
                go_ret2
                exact ⟨_, by first | rfl | (simp [errW_none, errW_some] <;> rfl) | (simp [*, errW_none, errW_some] <;> rfl), by (with_reducible repeat (first | apply Kd.R_alloc | apply Kd.R_drewN | apply Kd.R_drew)); exact Kd.R_mono HO1383.out (fun _ hk => trivial), by repeat (first | (with_reducible first | exact HB.out | apply below_alloc | apply pw_below_drewN | apply below_drew1) | exact HB.out)⟩
              · rw [if_neg c55] at H
                exact absurd H (by simp)
            · rw [if_neg c54] at H
              have c54b0 : (a1.toList == ([109, 46, 114, 111, 111, 109, 46, 97, 108, 105, 97, 115, 101, 115] : List UInt8)) = false := beq_eq_false_iff_ne.mpr c54
              have c54b1 : (a1.toList != ([109, 46, 114, 111, 111, 109, 46, 97, 108, 105, 97, 115, 101, 115] : List UInt8)) = true := bne_iff_ne.mpr c54
              by_cases c66 : a1.toList = ([109, 46, 114, 111, 111, 109, 46, 104, 105, 115, 116, 111, 114, 121, 95, 118, 105, 115, 105, 98, 105, 108, 105, 116, 121] : List UInt8)
              · rw [if_pos c66] at H
                have c66b0 : (a1.toList == ([109, 46, 114, 111, 111, 109, 46, 104, 105, 115, 116, 111, 114, 121, 95, 118, 105, 115, 105, 98, 105, 108, 105, 116, 121] : List UInt8)) = true := beq_iff_eq.mpr c66
                have c66b1 : (a1.toList != ([109, 46, 114, 111, 111, 109, 46, 104, 105, 115, 116, 111, 114, 121, 95, 118, 105, 115, 105, 98, 105, 108, 105, 116, 121] : List UInt8)) = false := bne_eq_false_iff_eq.mpr c66
                clear c66
                obtain ⟨y1384, hy1384⟩ : ∃ y_ : List ByteArray, y_ = (([(⟨#[104, 105, 115, 116, 111, 114, 121, 95, 118, 105, 115, 105, 98, 105, 108, 105, 116, 121]⟩ : ByteArray)] : List ByteArray)) := ⟨_, rfl⟩
                replace H : (some (y1384, false)) = some (r1, r2) := by first | (rw [hy1384]; with_reducible exact H) | (have H2_ := (Option.bind_some _ _).symm.trans H; rw [hy1384]; with_reducible exact H2_) | (have H2_ := (Option.bind_some _ _).symm.trans H; with_reducible exact H2_) | with_reducible exact H | (rw [hy1384]; exact H) | exact H
                have Ny1384 := Aside0.mk hy1384
                clear hy1384
                simp only [Option.some.injEq, Prod.mk.injEq] at H
                obtain ⟨rfl, rfl⟩ := H
                go_enter Try.func55, Try.ntmps55
                go_wp2_with (first | ((with_reducible refine gate_callee (f := 104) rfl ?_); refine goesL_ (some 10) rfl rfl Try.func104 (by kernel_rfl) rfl #[.int .i64 a0] rfl (by (try simp only [List.map_toArray, List.map_cons, List.map_nil]); first | done | rfl | (simp only [List.length_drop, List.length_take]; rfl)) ?_; (with_reducible refine (sealringref26_Of.calls a0 t1335 true _ A3.out).mono ?_); rintro e w67 ⟨v1337, rfl, ho0, hb⟩; refine ⟨_, rfl, ?_⟩; have n0_ := Aside0.mk (Kd.R_lower ho0 (below_size (by repeat (first | (with_reducible first | exact HB.out | apply below_alloc | apply pw_below_drewN | apply below_drew1) | exact HB.out)))); have n1_ := Aside0.mk (below_step (by repeat (first | (with_reducible first | exact HB.out | apply below_alloc | apply pw_below_drewN | apply below_drew1) | exact HB.out)) hb); clear HB; have HO1338 := n0_; have HB := n1_; clear n0_ n1_; (try clear hb); (try clear hb2); (try clear hk); (try clear hi); (try clear ho0)) | ((with_reducible refine gate_dst (N := 59) rfl ?_); refine Kd.R_lit Kd.string _ 9 ?hg (N := 59) ?hd (xs := ([(⟨#[104, 105, 115, 116, 111, 114, 121, 95, 118, 105, 115, 105, 98, 105, 108, 105, 116, 121]⟩ : ByteArray)] : List ByteArray)) (inner := [.string (⟨#[104, 105, 115, 116, 111, 114, 121, 95, 118, 105, 115, 105, 98, 105, 108, 105, 116, 121]⟩ : ByteArray)]) (ok := fun _ => True) (okp := fun _ => True) ?hr ?hp (fun _ hk => hk) trivial (Below.refl _ _) (Nat.le_refl _) (by simp) ?_; (case hd => rfl); (case hg => rfl); (case hr => first | (go_simp; done) | (go_simp; rfl)); (case hp => exact (Reps.one (show Kd.M Kd.string _ _ _ (⟨#[104, 105, 115, 116, 111, 114, 121, 95, 118, 105, 115, 105, 98, 105, 108, 105, 116, 121]⟩ : ByteArray) [.string (⟨#[104, 105, 115, 116, 111, 114, 121, 95, 118, 105, 115, 105, 98, 105, 108, 105, 116, 121]⟩ : ByteArray)] from rfl) (Reps.none _ _))); intro v1385 w68 ho69 hb hg_ hnew_; clear hg_ hnew_; (first | rw [← Ny1384.out] at ho69 | (simp only [Int.reduceToNat] at ho69; rw [← Ny1384.out] at ho69)); have n0_ := Aside0.mk (Kd.R_below (by (with_reducible repeat (first | apply Kd.R_alloc | apply Kd.R_drewN | apply Kd.R_drew)); exact HO1338.out) hb); have n1_ := Aside0.mk (Kd.R_lower ho69 (below_size (by repeat (first | (with_reducible first | exact HB.out | apply below_alloc | apply pw_below_drewN | apply below_drew1) | exact HB.out)))); have n2_ := Aside0.mk (below_step (by repeat (first | (with_reducible first | exact HB.out | apply below_alloc | apply pw_below_drewN | apply below_drew1) | exact HB.out)) hb); clear HO1338; clear HB; have HO1338 := n0_; have HO1386 := n1_; have HB := n2_; clear n0_ n1_ n2_; clear hb ho69))
                go_ret2
                exact ⟨_, by first | rfl | (simp [errW_none, errW_some] <;> rfl) | (simp [*, errW_none, errW_some] <;> rfl), by (with_reducible repeat (first | apply Kd.R_alloc | apply Kd.R_drewN | apply Kd.R_drew)); exact HO1386.out, by repeat (first | (with_reducible first | exact HB.out | apply below_alloc | apply pw_below_drewN | apply below_drew1) | exact HB.out)⟩
              · rw [if_neg c66] at H
                have c66b0 : (a1.toList == ([109, 46, 114, 111, 111, 109, 46, 104, 105, 115, 116, 111, 114, 121, 95, 118, 105, 115, 105, 98, 105, 108, 105, 116, 121] : List UInt8)) = false := beq_eq_false_iff_ne.mpr c66
                have c66b1 : (a1.toList != ([109, 46, 114, 111, 111, 109, 46, 104, 105, 115, 116, 111, 114, 121, 95, 118, 105, 115, 105, 98, 105, 108, 105, 116, 121] : List UInt8)) = true := bne_iff_ne.mpr c66
                by_cases c70 : a1.toList = ([109, 46, 114, 111, 111, 109, 46, 114, 101, 100, 97, 99, 116, 105, 111, 110] : List UInt8)
                · rw [if_pos c70] at H
                  have c70b0 : (a1.toList == ([109, 46, 114, 111, 111, 109, 46, 114, 101, 100, 97, 99, 116, 105, 111, 110] : List UInt8)) = true := beq_iff_eq.mpr c70
                  have c70b1 : (a1.toList != ([109, 46, 114, 111, 111, 109, 46, 114, 101, 100, 97, 99, 116, 105, 111, 110] : List UInt8)) = false := bne_eq_false_iff_eq.mpr c70
                  clear c70
                  obtain ⟨y1387, hy1387⟩ : ∃ y_ : List ByteArray, y_ = (([(⟨#[114, 101, 100, 97, 99, 116, 115]⟩ : ByteArray)] : List ByteArray)) := ⟨_, rfl⟩
                  replace H : (if 6 < (t1335.length : Int) then ((sealringref32_some.f k y1387 (([rdOf false t1335 6] : List Bool))).bind fun t1394 => (some (t1394, false))) else (none)) = some (r1, r2) := by first | (rw [hy1387]; with_reducible exact H) | (have H2_ := (Option.bind_some _ _).symm.trans H; rw [hy1387]; with_reducible exact H2_) | (have H2_ := (Option.bind_some _ _).symm.trans H; with_reducible exact H2_) | with_reducible exact H | (rw [hy1387]; exact H) | exact H
                  have Ny1387 := Aside0.mk hy1387
                  clear hy1387
                  by_cases c71 : 6 < (t1335.length : Int)
                  · rw [if_pos c71] at H
                    have c71b0 : decide (6 < (t1335.length : Int)) = true := decide_eq_true c71
                    have c71b1 : decide (6 < t1335.length) = true := decide_eq_true (by omega)
                    clear c71
                    obtain ⟨y1391, hy1391⟩ : ∃ y_ : List Bool, y_ = (([rdOf false t1335 6] : List Bool)) := ⟨_, rfl⟩
                    replace H : ((sealringref32_some.f k y1387 y1391).bind fun t1394 => (some (t1394, false))) = some (r1, r2) := by first | (rw [hy1391]; with_reducible exact H) | (have H2_ := (Option.bind_some _ _).symm.trans H; rw [hy1391]; with_reducible exact H2_) | (have H2_ := (Option.bind_some _ _).symm.trans H; with_reducible exact H2_) | with_reducible exact H | (rw [hy1391]; exact H) | exact H
                    have Ny1391 := Aside0.mk hy1391
                    clear hy1391
                    replace H := Option.bind_eq_some_iff.mp H
                    obtain ⟨t1394, A720, H⟩ := H
                    replace H : (some (t1394, false)) = some (r1, r2) := H
                    have A72 := Aside0.mk A720
                    clear A720
                    simp only [Option.some.injEq, Prod.mk.injEq] at H
                    obtain ⟨rfl, rfl⟩ := H
                    go_enter Try.func55, Try.ntmps55
                    go_wp2_with (first | ((with_reducible refine gate_callee (f := 104) rfl ?_); refine goesL_ (some 10) rfl rfl Try.func104 (by kernel_rfl) rfl #[.int .i64 a0] rfl (by (try simp only [List.map_toArray, List.map_cons, List.map_nil]); first | done | rfl | (simp only [List.length_drop, List.length_take]; rfl)) ?_; (with_reducible refine (sealringref26_Of.calls a0 t1335 true _ A3.out).mono ?_); rintro e w73 ⟨v1337, rfl, ho0, hb⟩; refine ⟨_, rfl, ?_⟩; have n0_ := Aside0.mk (Kd.R_lower ho0 (below_size (by repeat (first | (with_reducible first | exact HB.out | apply below_alloc | apply pw_below_drewN | apply below_drew1) | exact HB.out)))); have n1_ := Aside0.mk (below_step (by repeat (first | (with_reducible first | exact HB.out | apply below_alloc | apply pw_below_drewN | apply below_drew1) | exact HB.out)) hb); clear HB; have HO1338 := n0_; have HB := n1_; clear n0_ n1_; (try clear hb); (try clear hb2); (try clear hk); (try clear hi); (try clear ho0)) | ((with_reducible refine gate_dst (N := 62) rfl ?_); refine Kd.R_lit Kd.string _ 9 ?hg (N := 62) ?hd (xs := ([(⟨#[114, 101, 100, 97, 99, 116, 115]⟩ : ByteArray)] : List ByteArray)) (inner := [.string (⟨#[114, 101, 100, 97, 99, 116, 115]⟩ : ByteArray)]) (ok := fun _ => True) (okp := fun _ => True) ?hr ?hp (fun _ hk => hk) trivial (Below.refl _ _) (Nat.le_refl _) (by simp) ?_; (case hd => rfl); (case hg => rfl); (case hr => first | (go_simp; done) | (go_simp; rfl)); (case hp => exact (Reps.one (show Kd.M Kd.string _ _ _ (⟨#[114, 101, 100, 97, 99, 116, 115]⟩ : ByteArray) [.string (⟨#[114, 101, 100, 97, 99, 116, 115]⟩ : ByteArray)] from rfl) (Reps.none _ _))); intro v1388 w74 ho75 hb hg_ hnew_; clear hg_ hnew_; (first | rw [← Ny1387.out] at ho75 | (simp only [Int.reduceToNat] at ho75; rw [← Ny1387.out] at ho75)); have n0_ := Aside0.mk (Kd.R_below (by (with_reducible repeat (first | apply Kd.R_alloc | apply Kd.R_drewN | apply Kd.R_drew)); exact HO1338.out) hb); have n1_ := Aside0.mk (Kd.R_lower ho75 (below_size (by repeat (first | (with_reducible first | exact HB.out | apply below_alloc | apply pw_below_drewN | apply below_drew1) | exact HB.out)))); have n2_ := Aside0.mk (below_step (by repeat (first | (with_reducible first | exact HB.out | apply below_alloc | apply pw_below_drewN | apply below_drew1) | exact HB.out)) hb); clear HO1338; clear HB; have HO1338 := n0_; have HO1389 := n1_; have HB := n2_; clear n0_ n1_ n2_; clear hb ho75; obtain ⟨Ao76, co76, eo76⟩ := Kd.R_slice HO1338.out; subst eo76; have p1390 : 0 ≤ (6 : Int) := (by omega); have q1390 : 6 < (t1335.length : Int) := of_decide_eq_true (by first | (with_reducible assumption) | assumption); obtain ⟨ad1390, e1390, hx1390_0⟩ := Kd.at_bool (Kd.R_reads' HO1338.out).2.2 6 p1390 q1390; cases e1390; (try simp only [show (6 : Int).toNat = 6 from rfl, Nat.reduceMul, Nat.reduceEqDiff, Go.Addr.add, ↓reduceIte] at hx1390_0); have qi1390 : (6 < t1335.length) = True := eq_true (by omega); (try rw [show ((6 : Int)).toNat = 6 from rfl] at hx1390_0); replace p1390 := eq_true p1390; replace q1390 := eq_true q1390) | ((with_reducible refine gate_dst (N := 66) rfl ?_); refine Kd.R_lit Kd.bool _ 4 ?hg (N := 66) ?hd (xs := ([rdOf false t1335 6] : List Bool)) (inner := [.bool (rdOf false t1335 6)]) (ok := fun _ => True) (okp := fun _ => True) ?hr ?hp (fun _ hk => hk) trivial (Below.refl _ _) (Nat.le_refl _) (by simp) ?_; (case hd => rfl); (case hg => rfl); (case hr => first | (go_simp; done) | (go_simp; rfl)); (case hp => exact (Reps.one (show Kd.M Kd.bool _ _ _ (rdOf false t1335 6) [.bool (rdOf false t1335 6)] from rfl) (Reps.none _ _))); intro v1392 w77 ho78 hb hg_ hnew_; clear hg_ hnew_; (first | rw [← Ny1391.out] at ho78 | (simp only [Int.reduceToNat] at ho78; rw [← Ny1391.out] at ho78)); have n0_ := Aside0.mk (Kd.R_elder' (by (with_reducible repeat (first | apply Kd.R_alloc | apply Kd.R_drewN | apply Kd.R_drew)); exact HO1338.out) (Kd.R_base ho78) hb); have n1_ := Aside0.mk (Kd.R_below (by (with_reducible repeat (first | apply Kd.R_alloc | apply Kd.R_drewN | apply Kd.R_drew)); exact HO1389.out) hb); have n2_ := Aside0.mk (Kd.R_lower (Kd.R_new' ho78 (Kd.R_lt (by (with_reducible repeat (first | apply Kd.R_alloc | apply Kd.R_drewN | apply Kd.R_drew)); exact HO1338.out))) (below_size (by repeat (first | (with_reducible first | exact HB.out | apply below_alloc | apply pw_below_drewN | apply below_drew1) | exact HB.out)))); have n3_ := Aside0.mk (below_step (by repeat (first | (with_reducible first | exact HB.out | apply below_alloc | apply pw_below_drewN | apply below_drew1) | exact HB.out)) hb); clear HO1338; clear HO1389; clear HB; have HO1338 := n0_; have HO1389 := n1_; have HO1393 := n2_; have HB := n3_; clear n0_ n1_ n2_ n3_; clear hb ho78; obtain ⟨Ao79, co79, eo79⟩ := Kd.R_slice HO1389.out; subst eo79; obtain ⟨Ao80, co80, eo80⟩ := Kd.R_slice HO1393.out; subst eo80) | ((with_reducible refine gate_callee (f := 105) rfl ?_); refine goesL_ (some 67) rfl rfl Try.func105 (by kernel_rfl) rfl #[.slice Ao79 y1387.length co79, .slice Ao80 y1391.length co80] rfl (by (try simp only [List.map_toArray, List.map_cons, List.map_nil]); first | done | rfl | (simp only [List.length_drop, List.length_take]; rfl)) ?_; (with_reducible refine (sealringref32_some.calls k _ _ y1387 _ _ y1391 t1394 _ ?side1 ?side2 ?side3 ?side4 A72.out).mono ?_); (case side1 => repeat (first | exact (Kd.R_reads' HO1389.out).2.2 | (with_reducible refine Kd.C_alloc ?_ _) | (with_reducible refine Kd.C_drewN ?_ _) | (with_reducible refine Kd.C_drew ?_))); (case side2 => exact (Kd.R_reads' HO1389.out).2.1); (case side3 => repeat (first | exact (Kd.R_reads' HO1393.out).2.2 | (with_reducible refine Kd.C_alloc ?_ _) | (with_reducible refine Kd.C_drewN ?_ _) | (with_reducible refine Kd.C_drew ?_))); (case side4 => exact (Kd.R_reads' HO1393.out).2.1); rintro e w81 ⟨v1395, rfl, ho0, hb⟩; refine ⟨_, rfl, ?_⟩; have n0_ := Aside0.mk (Kd.R_below (by (with_reducible repeat (first | apply Kd.R_alloc | apply Kd.R_drewN | apply Kd.R_drew)); exact HO1338.out) hb); have n1_ := Aside0.mk (Kd.R_elder' (by (with_reducible repeat (first | apply Kd.R_alloc | apply Kd.R_drewN | apply Kd.R_drew)); exact HO1389.out) (Kd.R_base ho0) hb); have n2_ := Aside0.mk (Kd.R_below (by (with_reducible repeat (first | apply Kd.R_alloc | apply Kd.R_drewN | apply Kd.R_drew)); exact HO1393.out) hb); have n3_ := Aside0.mk (Kd.R_lower (Kd.R_new' ho0 (Kd.R_lt (by (with_reducible repeat (first | apply Kd.R_alloc | apply Kd.R_drewN | apply Kd.R_drew)); exact HO1389.out))) (below_size (by repeat (first | (with_reducible first | exact HB.out | apply below_alloc | apply pw_below_drewN | apply below_drew1) | exact HB.out)))); have n4_ := Aside0.mk (below_step (by repeat (first | (with_reducible first | exact HB.out | apply below_alloc | apply pw_below_drewN | apply below_drew1) | exact HB.out)) hb); clear HO1338; clear HO1389; clear HO1393; clear HB; have HO1338 := n0_; have HO1389 := n1_; have HO1393 := n2_; have HO1396 := n3_; have HB := n4_; clear n0_ n1_ n2_ n3_ n4_; (try clear hb); (try clear hb2); (try clear hk); (try clear hi); (try clear ho0)))
                    go_ret2
                    exact ⟨_, by first | rfl | (simp [errW_none, errW_some] <;> rfl) | (simp [*, errW_none, errW_some] <;> rfl), by (with_reducible repeat (first | apply Kd.R_alloc | apply Kd.R_drewN | apply Kd.R_drew)); exact Kd.R_mono HO1396.out (fun _ hk => trivial), by repeat (first | (with_reducible first | exact HB.out | apply below_alloc | apply pw_below_drewN | apply below_drew1) | exact HB.out)⟩
                  · rw [if_neg c71] at H
                    exact absurd H (by simp)
                · rw [if_neg c70] at H
                  have c70b0 : (a1.toList == ([109, 46, 114, 111, 111, 109, 46, 114, 101, 100, 97, 99, 116, 105, 111, 110] : List UInt8)) = false := beq_eq_false_iff_ne.mpr c70
                  have c70b1 : (a1.toList != ([109, 46, 114, 111, 111, 109, 46, 114, 101, 100, 97, 99, 116, 105, 111, 110] : List UInt8)) = true := bne_iff_ne.mpr c70
                  simp only [Option.some.injEq, Prod.mk.injEq] at H
                  obtain ⟨rfl, rfl⟩ := H
                  go_enter Try.func55, Try.ntmps55
                  go_wp2_with (first | ((with_reducible refine gate_callee (f := 104) rfl ?_); refine goesL_ (some 10) rfl rfl Try.func104 (by kernel_rfl) rfl #[.int .i64 a0] rfl (by (try simp only [List.map_toArray, List.map_cons, List.map_nil]); first | done | rfl | (simp only [List.length_drop, List.length_take]; rfl)) ?_; (with_reducible refine (sealringref26_Of.calls a0 t1335 true _ A3.out).mono ?_); rintro e w82 ⟨v1337, rfl, ho0, hb⟩; refine ⟨_, rfl, ?_⟩; have n0_ := Aside0.mk (Kd.R_lower ho0 (below_size (by repeat (first | (with_reducible first | exact HB.out | apply below_alloc | apply pw_below_drewN | apply below_drew1) | exact HB.out)))); have n1_ := Aside0.mk (below_step (by repeat (first | (with_reducible first | exact HB.out | apply below_alloc | apply pw_below_drewN | apply below_drew1) | exact HB.out)) hb); clear HB; have HO1338 := n0_; have HB := n1_; clear n0_ n1_; (try clear hb); (try clear hb2); (try clear hk); (try clear hi); (try clear ho0)))
                  go_ret2
                  exact ⟨_, by first | rfl | (simp [errW_none, errW_some] <;> rfl) | (simp [*, errW_none, errW_some] <;> rfl), by first | exact Kd.R_nil _ _ _ _ _ | exact Kd.N_nil _ _ _ _ _ | exact Kd.V_nil _ _ _ _ _ | exact Kd.Q_nil _ _ _ _ _ | exact Kd.S_nil _ _ _ _ _, by repeat (first | (with_reducible first | exact HB.out | apply below_alloc | apply pw_below_drewN | apply below_drew1) | exact HB.out)⟩
  · replace c4 := Bool.eq_false_iff.mpr c4
    subst c4
    have H1 : (some (([] : List ByteArray), false)) = some (r1, r2) := by rw [if_neg (show ¬ (false = true) by decide)] at H; exact H
    clear H
    have H := H1
    clear H1
    simp only [Option.some.injEq, Prod.mk.injEq] at H
    obtain ⟨rfl, rfl⟩ := H
    go_enter Try.func55, Try.ntmps55
    go_wp2_with (first | ((with_reducible refine gate_callee (f := 104) rfl ?_); refine goesL_ (some 10) rfl rfl Try.func104 (by kernel_rfl) rfl #[.int .i64 a0] rfl (by (try simp only [List.map_toArray, List.map_cons, List.map_nil]); first | done | rfl | (simp only [List.length_drop, List.length_take]; rfl)) ?_; (with_reducible refine (sealringref26_Of.calls a0 t1335 false _ A3.out).mono ?_); rintro e w83 ⟨v1337, rfl, ho0, hb⟩; refine ⟨_, rfl, ?_⟩; have n0_ := Aside0.mk (Kd.R_lower ho0 (below_size (by repeat (first | (with_reducible first | exact HB.out | apply below_alloc | apply pw_below_drewN | apply below_drew1) | exact HB.out)))); have n1_ := Aside0.mk (below_step (by repeat (first | (with_reducible first | exact HB.out | apply below_alloc | apply pw_below_drewN | apply below_drew1) | exact HB.out)) hb); clear HB; have HO1338 := n0_; have HB := n1_; clear n0_ n1_; (try clear hb); (try clear hb2); (try clear hk); (try clear hi); (try clear ho0)))
    go_ret2
    exact ⟨_, by first | rfl | (simp [errW_none, errW_some] <;> rfl) | (simp [*, errW_none, errW_some] <;> rfl), by first | exact Kd.R_nil _ _ _ _ _ | exact Kd.N_nil _ _ _ _ _ | exact Kd.V_nil _ _ _ _ _ | exact Kd.Q_nil _ _ _ _ _ | exact Kd.S_nil _ _ _ _ _, by repeat (first | (with_reducible first | exact HB.out | apply below_alloc | apply pw_below_drewN | apply below_drew1) | exact HB.out)⟩
end Go.Proofs.Ytjdldlphfifggaa.X
end
section
namespace Go.Proofs.Ytjdldlphfifggaa.X
open Go.RowKit Go.Proofs.YtjdldlphfifggaaW.PrintWords Go.Proofs.YtjdldlphfifggaaW.PrintLast
set_option linter.unusedVariables false
set_option linter.unusedSimpArgs false
def insL (x : List UInt8) : List (List UInt8) → List (List UInt8)
  | [] => [x]
  | y :: ys => if x ≤ y then x :: y :: ys else y :: insL x ys
def isortL : List (List UInt8) → List (List UInt8)
  | [] => []
  | x :: xs => insL x (isortL xs)
theorem insL_perm (x : List UInt8) : ∀ l, (insL x l).Perm (x :: l)
  | [] => List.Perm.refl _
  | y :: ys => by
    unfold insL
    split
    · exact List.Perm.refl _
    · exact ((insL_perm x ys).cons y).trans (List.Perm.swap x y ys)
theorem isortL_perm : ∀ l, (isortL l).Perm l
  | [] => List.Perm.refl _
  | x :: xs => (insL_perm x _).trans ((isortL_perm xs).cons x)
theorem insL_pw (x : List UInt8) : ∀ l, l.Pairwise (· ≤ ·) → (insL x l).Pairwise (· ≤ ·)
  | [], _ => by simp [insL]
  | y :: ys, h => by
    rw [List.pairwise_cons] at h
    unfold insL
    split
    · rename_i hx
      refine List.pairwise_cons.2 ⟨fun z hz => ?_, List.pairwise_cons.2 h⟩
      rcases List.mem_cons.1 hz with rfl | hz
      · exact hx
      · exact List.le_trans hx (h.1 z hz)
    · rename_i hx
      refine List.pairwise_cons.2 ⟨fun z hz => ?_, insL_pw x ys h.2⟩
      rcases List.mem_cons.1 ((insL_perm x ys).mem_iff.1 hz) with rfl | hz
      · exact (List.le_total y z).resolve_right hx
      · exact h.1 z hz
theorem isortL_pw : ∀ l, (isortL l).Pairwise (· ≤ ·)
  | [] => List.Pairwise.nil
  | x :: xs => insL_pw x _ (isortL_pw xs)
theorem merge_isort (l : List (List UInt8)) : (l.mergeSort fun x y => decide (x ≤ y)) = isortL l := by
  refine List.Perm.eq_of_pairwise (le := (· ≤ ·)) (fun a b _ _ h1 h2 => List.le_antisymm h1 h2) ?_ (isortL_pw l) ((List.mergeSort_perm l _).trans (isortL_perm l).symm)
  have := List.pairwise_mergeSort (le := fun (x y : List UInt8) => decide (x ≤ y)) (fun a b c h1 h2 => by simp only [decide_eq_true_eq] at *; exact List.le_trans h1 h2) (fun a b => by simp only [Bool.or_eq_true, decide_eq_true_eq]; exact List.le_total a b) l
  exact this.imp (fun h => by simpa using h)
def isB (l : List ByteArray) : List ByteArray := (isortL (l.map (·.data.toList))).map fun b => ⟨b.toArray⟩
theorem sortB_is (l : List ByteArray) : sortB l = isB l := by unfold sortB isB; rw [merge_isort]
def keepF (a0 : Int) (a1 : ByteArray) : Option (List ByteArray × Bool) :=
  (version_Of.f a0).bind fun t => if t.2.2.2.2.2.2.2 = 0 then (if t.2.2.2.2.2.2.1 = true ∧ a1.data.toList = keepK1.data.toList then some ([], true) else some (isB (keepG t.2.2.2.1 t.2.2.2.2.1 t.2.2.2.2.2.1 t.2.2.2.2.2.2.1 a1.data.toList), false)) else some ([], false)
theorem content_is (a0 : Int) (a1 : ByteArray) (h : a1.size ≤ 140737488351232) : keep_Content.f a0 a1 = keepF a0 a1 := by
  unfold keep_Content.f keepF
  cases version_Of.f a0 with
  | none => rfl
  | some t =>
    simp only [Option.bind_some]
    by_cases c : t.2.2.2.2.2.2.2 = 0
    · rw [if_pos c, if_pos c, if_pos (by unfold maxLen; omega), sortB_is, Go.ByteArray.toList_eq]
      by_cases c1 : t.2.2.2.2.2.2.1 = true
      · rw [if_pos c1]
        by_cases c2 : a1.data.toList = keepK1.data.toList
        · rw [if_pos c2, if_pos ⟨c1, c2⟩]
        · rw [if_neg c2, if_neg (fun h => c2 h.2)]
      · rw [if_neg c1, if_neg (fun h => c1 h.1)]
    · rw [if_neg c, if_neg c]
def keepTF (a0 : Int) : Option (List ByteArray × Int) :=
  (version_Of.f a0).bind fun t => if t.2.2.2.2.2.2.2 = 0 then (if t.2.2.2.2.2.2.1 = true then some (keepT, 0) else some (isB (keepT ++ keepU), 0)) else some ([], t.2.2.2.2.2.2.2)
theorem top_is (a0 : Int) : keep_Top.f a0 = keepTF a0 := by unfold keep_Top.f keepTF; simp only [sortB_is]
def kinds : List ByteArray := [(⟨#[109, 46, 114, 111, 111, 109, 46, 109, 101, 109, 98, 101, 114]⟩ : ByteArray), (⟨#[109, 46, 114, 111, 111, 109, 46, 99, 114, 101, 97, 116, 101]⟩ : ByteArray), (⟨#[109, 46, 114, 111, 111, 109, 46, 106, 111, 105, 110, 95, 114, 117, 108, 101, 115]⟩ : ByteArray), (⟨#[109, 46, 114, 111, 111, 109, 46, 112, 111, 119, 101, 114, 95, 108, 101, 118, 101, 108, 115]⟩ : ByteArray), (⟨#[109, 46, 114, 111, 111, 109, 46, 104, 105, 115, 116, 111, 114, 121, 95, 118, 105, 115, 105, 98, 105, 108, 105, 116, 121]⟩ : ByteArray), (⟨#[109, 46, 114, 111, 111, 109, 46, 97, 108, 105, 97, 115, 101, 115]⟩ : ByteArray), (⟨#[109, 46, 114, 111, 111, 109, 46, 114, 101, 100, 97, 99, 116, 105, 111, 110]⟩ : ByteArray)]
def other (a1 : ByteArray) : Prop := ∀ x ∈ kinds, a1.data.toList ≠ x.data.toList
theorem kind_or (a1 : ByteArray) : (∃ i : Fin 7, a1 = kinds.getD i.val ⟨#[]⟩) ∨ other a1 := by
  by_cases h : a1 ∈ kinds
  · obtain ⟨i, hi, e⟩ := List.getElem_of_mem h
    refine .inl ⟨⟨i, hi⟩, ?_⟩
    rw [List.getD_eq_getElem?_getD, List.getElem?_eq_getElem hi]
    exact e.symm
  · refine .inr fun x hx e => h ?_
    have : a1 = x := by
      cases a1 with | mk a => cases x with | mk b => exact congrArg _ (Array.toList_inj.1 e)
    rw [this]
    exact hx
theorem keepG_other (r3 r4 r5 r6 : Bool) (a1 : ByteArray) (h : other a1) : keepG r3 r4 r5 r6 a1.data.toList = [] := by
  have n : ∀ (f : List UInt8 → List ByteArray) (x : ByteArray) (v : List ByteArray), x ∈ kinds → upd f x.data.toList v a1.data.toList = f a1.data.toList := fun f x v hx => upd_other f v (h x hx)
  have m : ∀ (f : List UInt8 → List ByteArray) (x v : ByteArray) (yes : Bool), x ∈ kinds → addG f x v yes a1.data.toList = f a1.data.toList := fun f x v yes hx => by
    unfold addG
    split
    · exact n _ _ _ hx
    · rfl
  unfold keepG
  rw [m _ _ _ _ (by simp [kinds]), m _ _ _ _ (by simp [kinds]), m _ _ _ _ (by simp [kinds]), m _ _ _ _ (by simp [kinds]), m _ _ _ _ (by simp [kinds]), m _ _ _ _ (by simp [kinds])]
  unfold keepG5; rw [n _ _ _ (by simp [kinds])]
  unfold keepG4; rw [n _ _ _ (by simp [kinds])]
  unfold keepG3; rw [n _ _ _ (by simp [kinds])]
  unfold keepG2; rw [n _ _ _ (by simp [kinds])]
  unfold keepG1; rw [n _ _ _ (by simp [kinds])]
theorem keepF_other (a0 : Int) (a1 : ByteArray) (h : other a1) : keepF a0 a1 = some ([], false) := by
  unfold keepF
  have : ∃ t, version_Of.f a0 = some t := by
    unfold version_Of.f
    split
    · exact ⟨_, rfl⟩
    · split <;> exact ⟨_, rfl⟩
  obtain ⟨t, ht⟩ := this
  rw [ht]
  simp only [Option.bind_some]
  have hk : ¬ (t.2.2.2.2.2.2.1 = true ∧ a1.data.toList = keepK1.data.toList) := fun c => h keepK1 (by simp [kinds]) c.2
  rw [if_neg hk, keepG_other _ _ _ _ _ h]
  split <;> rfl
end Go.Proofs.Ytjdldlphfifggaa.X
end
section
namespace Go.Proofs.Ytjdldlphfifggaa.X
open Go.RowKit Go.Proofs.YtjdldlphfifggaaW.PrintWords Go.Proofs.YtjdldlphfifggaaW.PrintLast
set_option linter.unusedVariables false
set_option linter.unusedSimpArgs false
abbrev bodyB : ByteArray := ⟨#[98, 111, 100, 121]⟩
abbrev unsB : ByteArray := ⟨#[117, 110, 115, 105, 103, 110, 101, 100]⟩
abbrev xB : ByteArray := ⟨#[120]⟩
def evE (kind : ByteArray) (y : Nd) : Nd := mapD [tyB, conB, unsB] [textD kind, mapD [bodyB] [y], mapD [] []]
theorem inner_some {v : Int} {t : Bool × Bool × Bool × Bool × Bool × Bool × Bool × Int} (hv : version_Of.f v = some t) (kind key : ByteArray) : ∃ r, keep_Inner.f v kind key = some r := by
  unfold keep_Inner.f
  rw [hv]
  simp only [Option.bind_some]
  repeat' split
  all_goals exact ⟨_, rfl⟩
theorem contK_nil {v : Int} {kind : ByteArray} (hI : ∀ key, ∃ r, keep_Inner.f v kind key = some r) : ∀ keys : List ByteArray, contK v kind keys (mapD [] []) = some (mapD [] [])
  | [] => rfl
  | key :: r => by
    obtain ⟨t, ht⟩ := hI key
    have hw : withinN (mapD [] []) key t.1 = some (mapD [] []) := rfl
    rw [contK, ht, Option.bind_some, hw, Option.bind_some, contK_nil hI r]
    split <;> rfl
theorem wo3 (a b c : Nd) : withoutN (mapD [tyB, conB, unsB] [a, b, c]) [unsB] = some (mapD [tyB, conB] [a, b]) := by kernel_rfl
theorem wo1 (y : Nd) : withoutN (mapD [bodyB] [y]) [bodyB] = some (mapD [] []) := by kernel_rfl
theorem put2 (a b c : Nd) : putN (mapD [tyB, conB] [a, b]) conB c = some (mapD [tyB, conB] [a, c]) := by
  have e1 : (tyB.toList == conB.toList) = false := by decide +kernel
  simp [putN, ofT, tree_Put.f, ents, putL, e1, eta_]
theorem get3 (a b c : Nd) : get 6 [tyB, conB, unsB] [a, b, c] conB = some b := by kernel_rfl
theorem get3t (a b c : Nd) : get 6 [tyB, conB, unsB] [a, b, c] tyB = some a := by kernel_rfl
theorem get2c (a b : Nd) : get 6 [tyB, conB] [a, b] conB = some b := by kernel_rfl
theorem get2u (a b : Nd) : get 6 [tyB, conB] [a, b] unsB = none := by kernel_rfl
theorem only_is (K : List ByteArray) (L : List Nd) (keys : List ByteArray) : onlyN (mapD K L) keys = withoutN (mapD K L) (onlyK K keys) := rfl
theorem red_w (v : Int) (kind : ByteArray) (y : Nd) (keys top : List ByteArray) (all : Bool) (t : Bool × Bool × Bool × Bool × Bool × Bool × Bool × Int) (hv : version_Of.f v = some t) (ht : t.2.2.2.2.2.2.2 = 0) (hT : keep_Top.f v = some (top, 0)) (h1 : Lib.containsS top tyB = true) (h2 : Lib.containsS top conB = true) (h3 : Lib.containsS top unsB = false)
    (hC : keep_Content.f v kind = some (keys, all)) (hb : Lib.containsS keys bodyB = false) (hkl : keys.length < 1000000000) (hchk : chk (evE kind y) 1 = 0) :
    redactN v (evE kind y) = some (mapD [tyB, conB] [textD kind, if all = true then mapD [bodyB] [y] else mapD [] []], 0) := by
  have hon : onlyN (evE kind y) top = some (mapD [tyB, conB] [textD kind, mapD [bodyB] [y]]) := by
    unfold evE
    rw [only_is, show onlyK [tyB, conB, unsB] top = [unsB] by simp [onlyK, h1, h2, h3], wo3]
  have hco : contentN v kind (mapD [bodyB] [y]) = some (if all = true then mapD [bodyB] [y] else mapD [] []) := by
    unfold contentN
    rw [hC, Option.bind_some]
    simp only
    cases all with
    | true => rw [if_pos rfl, if_pos rfl]
    | false =>
      rw [if_neg (show ¬ (false = true) by simp), if_neg (show ¬ (false = true) by simp), if_pos hkl, only_is, show onlyK [bodyB] keys = [bodyB] by simp [onlyK, hb], wo1, Option.bind_some]
      exact contK_nil (inner_some hv kind) keys
  have hrd : redOut v (evE kind y) (mapD [tyB, conB] [textD kind, mapD [bodyB] [y]]) = some (mapD [tyB, conB] [textD kind, if all = true then mapD [bodyB] [y] else mapD [] []]) := by
    unfold redOut
    have hg : get (evE kind y).f0 (evE kind y).f3 (evE kind y).f4 conB = some (mapD [bodyB] [y]) := get3 _ _ _
    have hk : (textN (evE kind y) tyB).1 = kind := by
      have hg2 : get (evE kind y).f0 (evE kind y).f3 (evE kind y).f4 tyB = some (textD kind) := get3t _ _ _
      unfold textN
      rw [hg2]
      rfl
    rw [hg]
    simp only
    rw [if_pos trivial, hk, hco, Option.bind_some, put2]
  unfold redactN
  rw [hv, Option.bind_some]
  rw [if_pos ht, if_pos hchk, if_pos (show (evE kind y).f0 = 6 from rfl), hT, Option.bind_some, hon, Option.bind_some, hrd]
  rfl
theorem chk_text (s : ByteArray) (h : valB s = true) (d : Int) (hd : ¬ d > 64) : chk (textD s) d = 0 := by
  have hp : plainE 4 0 s [] ([] : List Nd) = 0 := by
    unfold plainE
    rw [if_neg (fun h => h (by unfold ownP; simp)), if_neg (by simp), if_neg (by simp [h]), if_neg (by simp)]
  rw [chk_eq, if_neg hd]
  show (if plainE 4 0 s [] ([] : List Nd) = 0 then _ else _) = _
  rw [if_pos hp]
  rfl
theorem chk_ev (kind : ByteArray) (y : Nd) (hk : valB kind = true) (hy : chk y 3 = 0) : chk (evE kind y) 1 = 0 := by
  have hm0 : chk (mapD [] []) 2 = 0 := by kernel_rfl
  have hmb : chk (mapD [bodyB] [y]) 2 = 0 := by
    rw [chk_eq, if_neg (by decide), if_pos (by kernel_rfl)]
    show chkL 6 [bodyB] [y] 2 0 = 0
    have hy' : chk y (2 + 1) = 0 := hy
    rw [chkL, if_pos (by kernel_rfl), if_pos hy', chkL]
  unfold evE
  rw [chk_eq, if_neg (by decide), if_pos (by kernel_rfl)]
  show chkL 6 [tyB, conB, unsB] [textD kind, mapD [bodyB] [y], mapD [] []] 1 0 = 0
  rw [chkL, if_pos (by kernel_rfl), if_pos (chk_text kind hk _ (by decide)), chkL, if_pos (by kernel_rfl), if_pos (show chk (mapD [bodyB] [y]) (1 + 1) = 0 from hmb), chkL, if_pos (by kernel_rfl), if_pos (show chk (mapD [] []) (1 + 1) = 0 from hm0), chkL]
theorem top_w : ∀ v : Fin 11, ∃ top, keepTF ((v.val : Int) + 1) = some (top, 0) ∧ Lib.containsS top tyB = true ∧ Lib.containsS top conB = true ∧ Lib.containsS top unsB = false := by
  have h : ∀ v : Fin 11, (keepTF ((v.val : Int) + 1)).map (·.2) = some 0 ∧ Lib.containsS ((keepTF ((v.val : Int) + 1)).getD ([], 0)).1 tyB = true ∧ Lib.containsS ((keepTF ((v.val : Int) + 1)).getD ([], 0)).1 conB = true ∧ Lib.containsS ((keepTF ((v.val : Int) + 1)).getD ([], 0)).1 unsB = false := by decide +kernel
  intro v
  obtain ⟨h0, h1, h2, h3⟩ := h v
  cases hk : keepTF ((v.val : Int) + 1) with
  | none => rw [hk] at h0; cases h0
  | some t =>
    rw [hk] at h0 h1 h2 h3
    obtain ⟨top, e⟩ := t
    simp only [Option.map_some, Option.some.injEq] at h0
    subst h0
    exact ⟨top, rfl, h1, h2, h3⟩
theorem keys_w : ∀ (v : Fin 11) (i : Fin 7), ∃ keys all, keepF ((v.val : Int) + 1) (kinds.getD i.val ⟨#[]⟩) = some (keys, all) ∧ Lib.containsS keys bodyB = false ∧ keys.length < 1000000000 ∧ sealringref32_Content.f 20 ((v.val : Int) + 1) (kinds.getD i.val ⟨#[]⟩) = some (keys, all) := by
  have h : ∀ (v : Fin 11) (i : Fin 7), (keepF ((v.val : Int) + 1) (kinds.getD i.val ⟨#[]⟩)).isSome = true ∧ Lib.containsS ((keepF ((v.val : Int) + 1) (kinds.getD i.val ⟨#[]⟩)).getD ([], false)).1 bodyB = false ∧ ((keepF ((v.val : Int) + 1) (kinds.getD i.val ⟨#[]⟩)).getD ([], false)).1.length < 1000000000 ∧ keepF ((v.val : Int) + 1) (kinds.getD i.val ⟨#[]⟩) = sealringref32_Content.f 20 ((v.val : Int) + 1) (kinds.getD i.val ⟨#[]⟩) := by decide +kernel
  intro v i
  obtain ⟨h0, h1, h2, h3⟩ := h v i
  cases hk : keepF ((v.val : Int) + 1) (kinds.getD i.val ⟨#[]⟩) with
  | none => rw [hk] at h0; cases h0
  | some t =>
    rw [hk] at h1 h2 h3
    exact ⟨t.1, t.2, rfl, h1, h2, h3.symm⟩
theorem ver_w : ∀ v : Fin 11, ∃ t, version_Of.f ((v.val : Int) + 1) = some t ∧ t.2.2.2.2.2.2.2 = 0 := by
  have h : ∀ v : Fin 11, (version_Of.f ((v.val : Int) + 1)).map (·.2.2.2.2.2.2.2) = some 0 := by decide +kernel
  intro v
  have := h v
  cases hk : version_Of.f ((v.val : Int) + 1) with
  | none => rw [hk] at this; cases this
  | some t => rw [hk] at this; exact ⟨t, rfl, by simpa using this⟩
end Go.Proofs.Ytjdldlphfifggaa.X
end
