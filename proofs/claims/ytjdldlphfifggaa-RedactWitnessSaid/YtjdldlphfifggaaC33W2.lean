import Derived.Test.YtjdldlphfifggaaC33W1
section
namespace Go.Proofs.Ytjdldlphfifggaa.X
open Go.RowKit Go.Proofs.YtjdldlphfifggaaW.PrintWords Go.Proofs.YtjdldlphfifggaaW.PrintLast Go.Proofs.YtjdldlphfifggaaW.PrintMore
set_option linter.unusedVariables false
set_option linter.unusedSimpArgs false
theorem spot_none {w : World} {a : Addr} {v : Value} (h : w.cell? a = some v) : a.spot = none := by
  unfold World.cell? at h
  split at h
  · split at h
    · cases h
    · rename_i hs; simpa using hs
  · cases h
theorem contains_calls (A : Option Addr) (c : Nat) (keys : List ByteArray) (x : ByteArray) (w : World) (hr : Kd.C Kd.string w A keys.length keys) :
    Calls Try.prog 82 #[.slice A keys.length c, .string x] w fun e w' => e = .returned (.bool (Lib.containsS keys x)) ∧ w' = w := by
  by_cases h0 : 0 < keys.length
  · have at_ : ∀ j : Nat, j < keys.length → ∃ ad, A = some ad ∧ w.cell? (ad.add j) = some (.string (keys.getD j ByteArray.empty)) := fun j hj => by
      obtain ⟨ad, e, h⟩ := Kd.at_string hr (j : Int) (by omega) (by omega)
      simp only [Int.toNat_natCast] at h
      refine ⟨ad, e, h.trans ?_⟩
      unfold rdOf
      rw [Int.toNat_natCast]
    obtain ⟨ad, rfl, h1⟩ := at_ 0 h0
    have hsp : ad.spot = none := spot_none h1
    obtain ⟨b, o, sp⟩ := ad
    subst hsp
    have hn := Try.slices_Contains_string b o keys.length c keys x w (Nat.le_refl _) hr.2.1 (fun j hj => by
      obtain ⟨ad', e, h⟩ := at_ j hj
      injection e with e
      subst e
      rw [← h]
      by_cases hj0 : j = 0
      · subst hj0; rfl
      · unfold Addr.add; rw [if_neg hj0])
    rw [List.take_length] at hn
    exact hn
  · have : keys = [] := List.length_eq_zero_iff.1 (by omega)
    subst this
    exact Try.slices_Contains_string_empty A c x w
set_option maxHeartbeats 800000 in
theorem put1 (k key : ByteArray) (a b : Int) (s : ByteArray) (A3 : Option Addr) (n3 c3 : Nat) (A4 : Option Addr) (n4 c4 : Nat) (bx : Addr) (w : World) (hbx : w.cell? bx = some (.string key)) :
    Calls Try.prog 79 #[.agg #[.string k, .int .i64 a, .int .i64 b, .string s, .slice A3 n3 c3, .slice A4 n4 c4], .pointer (some bx)] w fun e w' => e = .returned (.bool (k.toList == key.toList)) ∧ Below w.heap.size w w' := by
  have hlt := World.block_lt_of_cell? _ _ hbx
  go_enter Try.func79, Try.ntmps79
  go_wp2
  go_ret
  exact ⟨rfl, below_alloc (Below.refl _ _) _⟩
set_option maxHeartbeats 800000 in
theorem without1 (k : ByteArray) (keys : List ByteArray) (A : Option Addr) (c : Nat) (a b : Int) (s : ByteArray) (A3 : Option Addr) (n3 c3 : Nat) (A4 : Option Addr) (n4 c4 : Nat) (bx : Addr) (w : World) (hbx : w.cell? bx = some (.slice A keys.length c)) (hr : Kd.C Kd.string w A keys.length keys) :
    Calls Try.prog 81 #[.agg #[.string k, .int .i64 a, .int .i64 b, .string s, .slice A3 n3 c3, .slice A4 n4 c4], .pointer (some bx)] w fun e w' => e = .returned (.bool (Lib.containsS keys k)) ∧ Below w.heap.size w w' := by
  have hlt := World.block_lt_of_cell? _ _ hbx
  have hr2 := Aside0.mk hr
  go_enter Try.func81, Try.ntmps81
  go_wp2_with (go_at_call 82; with_reducible refine (contains_calls A c keys k _ (Kd.C_below hr2.out (below_alloc (Below.refl _ _) _))).mono ?_; rintro e w1 ⟨rfl, rfl⟩)
  go_ret
  exact ⟨rfl, below_alloc (Below.refl _ _) _⟩
end Go.Proofs.Ytjdldlphfifggaa.X
end
section
namespace Go.Proofs.Ytjdldlphfifggaa.X
open Go.RowKit Go.Proofs.YtjdldlphfifggaaW.PrintWords Go.Proofs.YtjdldlphfifggaaW.PrintLast Go.Proofs.YtjdldlphfifggaaW.PrintMore
set_option linter.unusedVariables false
set_option linter.unusedSimpArgs false
def idxP {α : Type} (p : α → Bool) : List α → Int
  | [] => -1
  | x :: xs => if p x = true then 0 else (if idxP p xs = -1 then -1 else idxP p xs + 1)
theorem idxP_at {α : Type} (p : α → Bool) : ∀ (l : List α) (i : Nat) (hi : i < l.length), (∀ j (h : j < l.length), j < i → p l[j] = false) → p l[i] = true → idxP p l = (i : Int)
  | x :: xs, 0, _, _, h => by
    have h0 : p x = true := h
    unfold idxP
    rw [if_pos h0]
    rfl
  | x :: xs, i + 1, hi, hn, h => by
    have h0 : p x = false := hn 0 (by simp) (by omega)
    have := idxP_at p xs i (by simpa using hi) (fun j hj hji => by have := hn (j + 1) (by simpa using hj) (by omega); simpa using this) (by simpa using h)
    unfold idxP
    rw [if_neg (by simp [h0]), this, if_neg (by omega)]
    omega
theorem idxP_none {α : Type} (p : α → Bool) : ∀ (l : List α), (∀ j (h : j < l.length), p l[j] = false) → idxP p l = -1
  | [], _ => rfl
  | x :: xs, hn => by
    have h0 : p x = false := hn 0 (by simp)
    have := idxP_none p xs (fun j hj => by have := hn (j + 1) (by simpa using hj); simpa using this)
    unfold idxP
    rw [if_neg (by simp [h0]), this, if_pos rfl]
theorem entry_at {w : World} {P : Nat → Prop} {ad : Addr} {c : Nat} {l : List S92} (hs : Kd.V k92 92 w w.heap.size P (.slice (some ad) l.length c) l) {i : Nat} (hi : i < l.length) :
    ∃ A3 c3 A4 c4, (∀ W, Below w.heap.size w W → W.cell? (ad.add (i * 6)) = some (.string l[i].f0) ∧ W.cell? ⟨(ad.add (i * 6)).block, (ad.add (i * 6)).off + 1, none⟩ = some (.int .i64 l[i].f1.f0) ∧ W.cell? ⟨(ad.add (i * 6)).block, (ad.add (i * 6)).off + 2, none⟩ = some (.int .i64 l[i].f1.f1) ∧ W.cell? ⟨(ad.add (i * 6)).block, (ad.add (i * 6)).off + 3, none⟩ = some (.string l[i].f1.f2) ∧ W.cell? ⟨(ad.add (i * 6)).block, (ad.add (i * 6)).off + 4, none⟩ = some (.slice A3 l[i].f1.f3.length c3) ∧ W.cell? ⟨(ad.add (i * 6)).block, (ad.add (i * 6)).off + 5, none⟩ = some (.slice A4 l[i].f1.f4.length c4)) ∧
      l[i].f1.f3.length ≤ c3 ∧ Kd.F Kd.string w P A3 l[i].f1.f3.length l[i].f1.f3 ∧ l[i].f1.f4.length ≤ c4 ∧ Kd.F k25 w P A4 l[i].f1.f4.length l[i].f1.f4 := by
  have p5 : (0 : Int) ≤ (i : Int) := by omega
  have q5 : (i : Int) < (l.length : Int) := by omega
  obtain ⟨ad', B7, d7, B8, d8, e7, x0, x1, x2, x3, x4, x5, l7, i7, l8, i8⟩ := at_T92 (Kd.V_reads' hs).2.2 (i : Int) p5 q5
  injection e7 with e7
  subst e7
  obtain ⟨cc, hcc, hM, hcell⟩ := Kd.V_get hs z92 (i : Int) p5 q5
  obtain ⟨A7, c7, A8, c8, rfl, l7', g7, l8', g8⟩ := k92_openF hM
  have hv4 := hcell 4 _ rfl
  rw [add_field _ _ 4 (by omega)] at hv4
  replace hv4 := Option.some.inj (hv4.symm.trans x4)
  injection hv4 with ha4 hn4 hc4
  have hv5 := hcell 5 _ rfl
  rw [add_field _ _ 5 (by omega)] at hv5
  replace hv5 := Option.some.inj (hv5.symm.trans x5)
  injection hv5 with ha5 hn5 hc5
  subst ha4 hc4 ha5 hc5
  have HX : rd_T92 l i = l[i] := by
    show l.getD ((i : Int)).toNat _ = _
    rw [Int.toNat_natCast, List.getD_eq_getElem?_getD, List.getElem?_eq_getElem hi]
    rfl
  rw [show l.getD ((i : Int)).toNat z92 = l[i] from HX] at l7' g7 l8' g8
  rw [HX] at x0 x1 x2 x3 x4 x5
  simp only [Int.toNat_natCast] at x0 x1 x2 x3 x4 x5
  refine ⟨A7, c7, A8, c8, fun W hW => ?_, l7', g7, l8', g8⟩
  have up : ∀ {p : Addr} {v : Value}, w.cell? p = some v → W.cell? p = some v := fun h => (hW.cell (World.block_lt_of_cell? _ _ h)).trans h
  exact ⟨up x0, up x1, up x2, up x3, up x4, up x5⟩
set_option maxHeartbeats 3200000 in
set_option maxRecDepth 100000 in
theorem index_put (p : S92 → Bool) (bx : Addr) (A : Option Addr) (c : Nat) (l : List S92) (P : Nat → Prop) (w : World) (hs : Kd.V k92 92 w w.heap.size P (.slice A l.length c) l) (hl : l.length < 1000000000)
    (hF : ∀ (W : World), Below w.heap.size w W → ∀ (x : S92) (A3 : Option Addr) (c3 : Nat) (A4 : Option Addr) (c4 : Nat), Calls Try.prog 79 #[.agg #[.string x.f0, .int .i64 x.f1.f0, .int .i64 x.f1.f1, .string x.f1.f2, .slice A3 x.f1.f3.length c3, .slice A4 x.f1.f4.length c4], .pointer (some bx)] W fun e W' => e = .returned (.bool (p x)) ∧ Below W.heap.size W W') :
    Calls Try.prog 78 #[.slice A l.length c, .func (.func 79) #[] #[.pointer (some bx)]] w fun e w' => e = .returned (.int .i64 (idxP p l)) ∧ Below w.heap.size w w' := by
  have hF' := Aside0.mk hF
  clear hF
  go_enter Try.func78, Try.ntmps78
  go_wp2
  go_loopg [8] (l.length + 1) (fun kq v8 W => ∃ i : Nat, v8 = .int .i64 (i : Int) ∧ Aside0 (i + kq = l.length + 1) ∧ Aside0 (i ≤ l.length) ∧ Aside0 (Below w.heap.size w W) ∧ Aside0 (∀ j (h : j < l.length), j < i → p l[j] = false))
  case atStart => exact ⟨0, rfl, ⟨by omega⟩, ⟨Nat.zero_le _⟩, ⟨Below.refl _ _⟩, ⟨fun j _ h => by omega⟩⟩
  case round =>
    obtain ⟨i, rfl, hk, hi, hB, hN⟩ := hrel
    cases gk with
    | zero => exact absurd hk.out (by have := hi.out; omega)
    | succ k1 =>
      by_cases c5 : i < l.length
      · have c5b : decide ((i : Int) < (l.length : Int)) = true := decide_eq_true (by omega)
        have p5 : ((0 : Int) ≤ (i : Int)) = True := eq_true (by omega)
        have q5 : ((i : Int) < (l.length : Int)) = True := eq_true (by omega)
        obtain ⟨ad, e7, _⟩ := (Kd.V_reads' hs).2.2.2.2 (by omega)
        subst e7
        obtain ⟨A3, c3, A4, c4, hc, _⟩ := entry_at hs c5
        obtain ⟨x0, x1, x2, x3, x4, x5⟩ := hc wr hB.out
        clear hc
        have hx := Aside0.mk (rfl : l[i] = l[i])
        generalize hxi : l[i] = x at x0 x1 x2 x3 x4 x5
        have HXI := Aside0.mk hxi
        clear hxi hx
        cases hp : p x with
        | true =>
          have hp' := Aside0.mk hp
          clear hp
          go_wp2_with (go_at_call 79; with_reducible refine (hF'.out _ hB.out x A3 c3 A4 c4).mono ?_; rw [hp'.out]; rintro e w1 ⟨rfl, hb⟩; have HB1 := Aside0.mk (below_then hB.out hB.out.size hb); clear hb)
          go_ret
          exact ⟨by rw [idxP_at p l i c5 (fun j hj hji => hN.out j hj hji) (by rw [HXI.out]; exact hp'.out)]; rfl, HB1.out⟩
        | false =>
          have hp' := Aside0.mk hp
          clear hp
          go_wp2_with (go_at_call 79; with_reducible refine (hF'.out _ hB.out x A3 c3 A4 c4).mono ?_; rw [hp'.out]; rintro e w1 ⟨rfl, hb⟩; have HB1 := Aside0.mk (below_then hB.out hB.out.size hb); clear hb)
          go_roundg k1
          case measure => omega
          case rel => exact ⟨i + 1, by go_num, ⟨by have := hk.out; omega⟩, ⟨c5⟩, HB1, ⟨fun j hj hji => by
            by_cases e : j = i
            · subst e; rw [HXI.out]; exact hp'.out
            · exact hN.out j hj (by omega)⟩⟩
      · have c5b : decide ((i : Int) < (l.length : Int)) = false := decide_eq_false (by omega)
        go_wp2
        go_ret
        exact ⟨by rw [idxP_none p l (fun j hj => hN.out j hj (by omega))]; rfl, hB.out⟩
set_option maxHeartbeats 3200000 in
set_option maxRecDepth 100000 in
theorem index_without (p : S92 → Bool) (bx : Addr) (A : Option Addr) (c : Nat) (l : List S92) (P : Nat → Prop) (w : World) (hs : Kd.V k92 92 w w.heap.size P (.slice A l.length c) l) (hl : l.length < 1000000000)
    (hF : ∀ (W : World), Below w.heap.size w W → ∀ (x : S92) (A3 : Option Addr) (c3 : Nat) (A4 : Option Addr) (c4 : Nat), Calls Try.prog 81 #[.agg #[.string x.f0, .int .i64 x.f1.f0, .int .i64 x.f1.f1, .string x.f1.f2, .slice A3 x.f1.f3.length c3, .slice A4 x.f1.f4.length c4], .pointer (some bx)] W fun e W' => e = .returned (.bool (p x)) ∧ Below W.heap.size W W') :
    Calls Try.prog 78 #[.slice A l.length c, .func (.func 81) #[] #[.pointer (some bx)]] w fun e w' => e = .returned (.int .i64 (idxP p l)) ∧ Below w.heap.size w w' := by
  have hF' := Aside0.mk hF
  clear hF
  go_enter Try.func78, Try.ntmps78
  go_wp2
  go_loopg [8] (l.length + 1) (fun kq v8 W => ∃ i : Nat, v8 = .int .i64 (i : Int) ∧ Aside0 (i + kq = l.length + 1) ∧ Aside0 (i ≤ l.length) ∧ Aside0 (Below w.heap.size w W) ∧ Aside0 (∀ j (h : j < l.length), j < i → p l[j] = false))
  case atStart => exact ⟨0, rfl, ⟨by omega⟩, ⟨Nat.zero_le _⟩, ⟨Below.refl _ _⟩, ⟨fun j _ h => by omega⟩⟩
  case round =>
    obtain ⟨i, rfl, hk, hi, hB, hN⟩ := hrel
    cases gk with
    | zero => exact absurd hk.out (by have := hi.out; omega)
    | succ k1 =>
      by_cases c5 : i < l.length
      · have c5b : decide ((i : Int) < (l.length : Int)) = true := decide_eq_true (by omega)
        have p5 : ((0 : Int) ≤ (i : Int)) = True := eq_true (by omega)
        have q5 : ((i : Int) < (l.length : Int)) = True := eq_true (by omega)
        obtain ⟨ad, e7, _⟩ := (Kd.V_reads' hs).2.2.2.2 (by omega)
        subst e7
        obtain ⟨A3, c3, A4, c4, hc, _⟩ := entry_at hs c5
        obtain ⟨x0, x1, x2, x3, x4, x5⟩ := hc wr hB.out
        clear hc
        have hx := Aside0.mk (rfl : l[i] = l[i])
        generalize hxi : l[i] = x at x0 x1 x2 x3 x4 x5
        have HXI := Aside0.mk hxi
        clear hxi hx
        cases hp : p x with
        | true =>
          have hp' := Aside0.mk hp
          clear hp
          go_wp2_with (go_at_call 81; with_reducible refine (hF'.out _ hB.out x A3 c3 A4 c4).mono ?_; rw [hp'.out]; rintro e w1 ⟨rfl, hb⟩; have HB1 := Aside0.mk (below_then hB.out hB.out.size hb); clear hb)
          go_ret
          exact ⟨by rw [idxP_at p l i c5 (fun j hj hji => hN.out j hj hji) (by rw [HXI.out]; exact hp'.out)]; rfl, HB1.out⟩
        | false =>
          have hp' := Aside0.mk hp
          clear hp
          go_wp2_with (go_at_call 81; with_reducible refine (hF'.out _ hB.out x A3 c3 A4 c4).mono ?_; rw [hp'.out]; rintro e w1 ⟨rfl, hb⟩; have HB1 := Aside0.mk (below_then hB.out hB.out.size hb); clear hb)
          go_roundg k1
          case measure => omega
          case rel => exact ⟨i + 1, by go_num, ⟨by have := hk.out; omega⟩, ⟨c5⟩, HB1, ⟨fun j hj hji => by
            by_cases e : j = i
            · subst e; rw [HXI.out]; exact hp'.out
            · exact hN.out j hj (by omega)⟩⟩
      · have c5b : decide ((i : Int) < (l.length : Int)) = false := decide_eq_false (by omega)
        go_wp2
        go_ret
        exact ⟨by rw [idxP_none p l (fun j hj => hN.out j hj (by omega))]; rfl, hB.out⟩
end Go.Proofs.Ytjdldlphfifggaa.X
end
section
namespace Go.Proofs.Ytjdldlphfifggaa.X
open Go.RowKit Go.Proofs.YtjdldlphfifggaaW.PrintWords Go.Proofs.YtjdldlphfifggaaW.PrintLast Go.Proofs.YtjdldlphfifggaaW.PrintMore
set_option linter.unusedVariables false
set_option linter.unusedSimpArgs false
structure Del {α β : Type} (p : α → Bool) (xs : List α) (rows : List β) (i j : Nat) (now : List β) : Prop where
  len : now.length = xs.length
  rl : rows.length = xs.length
  ij : i ≤ j
  jn : j ≤ xs.length
  i_ : i = ((xs.take j).filter fun x => !p x).length
  head : now.take i = (((xs.zip rows).take j).filter fun q => !p q.1).map (·.2)
  tail : now.drop j = rows.drop j
theorem Del.gone {α β : Type} {p : α → Bool} {xs : List α} {rows : List β} {i j : Nat} {now : List β} (h : Del p xs rows i j now) (hj : j < xs.length) (hp : p xs[j] = true) : Del p xs rows i (j + 1) now := by
  have hjr : j < rows.length := by rw [h.rl]; exact hj
  have hz : j < (xs.zip rows).length := by rw [List.length_zip]; omega
  refine ⟨h.len, h.rl, by have := h.ij; omega, hj, ?_, ?_, ?_⟩
  · rw [List.take_succ_eq_append_getElem hj, List.filter_append, List.filter_cons_of_neg (by simp [hp]), List.filter_nil, List.append_nil]
    exact h.i_
  · rw [List.take_succ_eq_append_getElem hz, List.filter_append, List.filter_cons_of_neg (by simp [hp]), List.filter_nil, List.append_nil]
    exact h.head
  · rw [← List.drop_drop, ← List.drop_drop, h.tail]
theorem Del.kept {α β : Type} {p : α → Bool} {xs : List α} {rows : List β} {i j : Nat} {now : List β} (h : Del p xs rows i j now) (hj : j < xs.length) (hp : p xs[j] = false) (hr : j < rows.length) : Del p xs rows (i + 1) (j + 1) (now.set i rows[j]) := by
  have hz : j < (xs.zip rows).length := by rw [List.length_zip]; omega
  have hi : i < now.length := by rw [h.len]; have := h.ij; omega
  refine ⟨by rw [List.length_set]; exact h.len, h.rl, by have := h.ij; omega, hj, ?_, ?_, ?_⟩
  · rw [List.take_succ_eq_append_getElem hj, List.filter_append, List.filter_cons_of_pos (by simp [hp]), List.filter_nil, List.length_append, List.length_singleton, ← h.i_]
  · rw [List.take_succ_eq_append_getElem hz, List.filter_append, List.filter_cons_of_pos (by simp [hp]), List.filter_nil, List.map_append, ← h.head, List.take_succ_eq_append_getElem (by rw [List.length_set]; exact hi)]
    rw [List.take_set_of_le (Nat.le_refl _)]
    simp
  · rw [List.drop_set_of_lt (by have := h.ij; omega), ← List.drop_drop, ← List.drop_drop, h.tail]
theorem Del.all {α β : Type} {p : α → Bool} {xs : List α} {rows : List β} (hl : rows.length = xs.length) : ∀ i, i ≤ xs.length → (∀ j (h : j < xs.length), j < i → p xs[j] = false) → Del p xs rows i i rows
  | 0, _, _ => ⟨hl, hl, Nat.le_refl _, Nat.zero_le _, by simp, by simp, rfl⟩
  | i + 1, hi, hn => by
    have h := Del.all (p := p) hl i (by omega) (fun j hj hji => hn j hj (by omega))
    have := h.kept (by omega) (hn i (by omega) (by omega)) (by omega)
    rw [List.set_getElem_self] at this
    exact this
theorem Del.start {α β : Type} {p : α → Bool} {xs : List α} {rows : List β} {i : Nat} (hl : rows.length = xs.length) (hi : i < xs.length) (hn : ∀ j (h : j < xs.length), j < i → p xs[j] = false) (hp : p xs[i] = true) : Del p xs rows i (i + 1) rows :=
  (Del.all hl i (by omega) hn).gone hi hp
theorem Del.ends {α β : Type} {p : α → Bool} {xs : List α} {rows : List β} {i : Nat} {now : List β} (h : Del p xs rows i xs.length now) : i = (xs.filter fun x => !p x).length ∧ now.take i = ((xs.zip rows).filter fun q => !p q.1).map (·.2) := by
  have e1 := h.i_
  have e2 := h.head
  rw [List.take_length] at e1
  rw [List.take_of_length_le (l := xs.zip rows) (by rw [List.length_zip]; omega)] at e2
  exact ⟨e1, e2⟩
theorem zip_filter_mem {α β : Type} (p : α → Bool) (R : α → β → Prop) : ∀ (xs : List α) (rows : List β), rows.length = xs.length → (∀ (j : Nat) x r, xs[j]? = some x → rows[j]? = some r → R x r) →
    ∀ (j : Nat) x r, (xs.filter fun x => !p x)[j]? = some x → (((xs.zip rows).filter fun q => !p q.1).map (·.2))[j]? = some r → R x r
  | [], [], _, _, j, x, r, h, _ => by simp at h
  | y :: ys, s :: ss, hl, hR, j, x, r, h1, h2 => by
    have ih := zip_filter_mem p R ys ss (by simpa using hl) (fun j x r a b => hR (j + 1) x r (by simpa using a) (by simpa using b))
    simp only [List.zip_cons_cons, List.filter_cons] at h1 h2
    cases hp : p y with
    | true => simp only [hp] at h1 h2; exact ih j x r h1 h2
    | false =>
      simp only [hp, Bool.not_false, if_true, List.map_cons] at h1 h2
      cases j with
      | zero =>
        simp only [List.getElem?_cons_zero, Option.some.injEq] at h1 h2
        subst h1 h2
        exact hR 0 _ _ rfl rfl
      | succ j => exact ih j x r (by simpa using h1) (by simpa using h2)
end Go.Proofs.Ytjdldlphfifggaa.X
end
section
namespace Go.Proofs.Ytjdldlphfifggaa.X
open Go.RowKit Go.Proofs.YtjdldlphfifggaaW.PrintWords Go.Proofs.YtjdldlphfifggaaW.PrintLast Go.Proofs.YtjdldlphfifggaaW.PrintMore
set_option linter.unusedVariables false
set_option linter.unusedSimpArgs false
theorem idxP_cases {α : Type} (p : α → Bool) : ∀ (l : List α), (idxP p l = -1 ∧ ∀ j (h : j < l.length), p l[j] = false) ∨ ∃ i, ∃ hi : i < l.length, idxP p l = (i : Int) ∧ (∀ j (h : j < l.length), j < i → p l[j] = false) ∧ p l[i] = true
  | [] => .inl ⟨rfl, fun j h => by simp at h⟩
  | x :: xs => by
    cases hp : p x with
    | true => exact .inr ⟨0, by simp, by unfold idxP; rw [if_pos hp]; rfl, fun j _ h => by omega, hp⟩
    | false =>
      rcases idxP_cases p xs with ⟨h1, h2⟩ | ⟨i, hi, h1, h2, h3⟩
      · refine .inl ⟨by unfold idxP; rw [if_neg (by simp [hp]), h1, if_pos rfl], fun j h => ?_⟩
        cases j with
        | zero => exact hp
        | succ j => exact h2 j (by simpa using h)
      · refine .inr ⟨i + 1, by simpa using hi, by unfold idxP; rw [if_neg (by simp [hp]), h1, if_neg (by omega)]; omega, fun j h hji => ?_, h3⟩
        cases j with
        | zero => exact hp
        | succ j => exact h2 j (by simpa using h) (by omega)
theorem entry_raw {w W : World} {P ok : Nat → Prop} {base g n c j : Nat} {now : List (List Value)} {r : List Value} {x : S92} (hR : (Kd.raw 6).R 92 W base ok (.slice (some ⟨g, 0, none⟩) n c) now) (hj : j < n) (hr : now[j]? = some r) (hF : Kd.FK k92 w P x r) :
    ∃ A3 c3 A4 c4, r = [.string x.f0, .int .i64 x.f1.f0, .int .i64 x.f1.f1, .string x.f1.f2, .slice A3 x.f1.f3.length c3, .slice A4 x.f1.f4.length c4] ∧ W.cell? ⟨g, j * 6, none⟩ = some (.string x.f0) ∧ W.cell? ⟨g, j * 6 + 1, none⟩ = some (.int .i64 x.f1.f0) ∧ W.cell? ⟨g, j * 6 + 2, none⟩ = some (.int .i64 x.f1.f1) ∧ W.cell? ⟨g, j * 6 + 3, none⟩ = some (.string x.f1.f2) ∧ W.cell? ⟨g, j * 6 + 4, none⟩ = some (.slice A3 x.f1.f3.length c3) ∧ W.cell? ⟨g, j * 6 + 5, none⟩ = some (.slice A4 x.f1.f4.length c4) ∧
      x.f1.f3.length ≤ c3 ∧ Kd.F Kd.string w P A3 x.f1.f3.length x.f1.f3 ∧ x.f1.f4.length ≤ c4 ∧ Kd.F k25 w P A4 x.f1.f4.length x.f1.f4 := by
  obtain ⟨A7, c7, A8, c8, e, l7, g7, l8, g8⟩ := k92_openF hF
  obtain ⟨cc, hcl, hM, hcc, hfr⟩ := Kd.R_elem hR [] (j : Int) (by omega) (by omega)
  have e2 : cc = r := by
    have h : cc = now.getD ((j : Int)).toNat [] := hM.1
    rw [h, Int.toNat_natCast, List.getD_eq_getElem?_getD, hr]
    rfl
  subst e2 e
  exact ⟨A7, c7, A8, c8, rfl, hcc 0 _ rfl, hcc 1 _ rfl, hcc 2 _ rfl, hcc 3 _ rfl, hcc 4 _ rfl, hcc 5 _ rfl, l7, g7, l8, g8⟩
theorem raw_clear {P : Program} {sz : Nat} {W : World} {base g n c i : Nat} {ok : Nat → Prop} {now : List (List Value)} {t e ty : TypeId} {z : Value} (ht0 : P.underlying t = some (.slice e)) (hv0 : ∀ w, (zeroValue e).run P w = .ok z w) (hz : z.cells.size = sz) (h1 : (z.cells.toList.all (·.oneCell')) = true) (hs0 : 0 < sz)
    (hR : (Kd.raw sz).R e W base ok (.slice (some ⟨g, 0, none⟩) n c) now) (hi : i < n) :
    ∃ w2, (Builtin.clear_ #[t] ty #[.slice (some ⟨g, i * sz, none⟩) (n - i) (c - i)]).run P W = .ok (.tuple #[]) w2 ∧ W.grownBy w2 (some g) ∧ (Kd.raw sz).R e w2 base ok (.slice (some ⟨g, 0, none⟩) i c) (now.take i) := by
  have hnow := (Kd.R_reads' hR).1
  have hRi := Kd.R_take hR (m := i) (by omega)
  obtain ⟨hok, inner, ho, hr⟩ := hRi
  have hn2 := (Kd.R_reads' hR).2.1
  have hsz : (Kd.raw sz).sz = sz := rfl
  rw [hsz] at ho hr
  obtain ⟨ho1, ho2⟩ := ho
  rcases ho2 with ⟨hv, _⟩ | ⟨g', cap', cur, hv, hb, hh, hnc', hcm, hcs, ht⟩
  · cases hv
  injection hv with ha hlen hc
  injection ha with ha
  injection ha with hg
  subst hg hc
  have hil : (now.take i).length = i := by rw [List.length_take]; omega
  rw [hil] at ho1 ht hnc'
  have hone : ∀ u ∈ (Builtin.zeroCells z.cells (n - i)).toList, u.oneCell' = true := by
    intro u hu
    simp only [Builtin.zeroCells, Array.toList_map, List.mem_map] at hu
    obtain ⟨q, _, rfl⟩ := hu
    have hq : q % z.cells.size < z.cells.size := Nat.mod_lt _ (by omega)
    rw [getElem!_pos z.cells (q % z.cells.size) hq]
    exact List.all_eq_true.1 h1 _ (by simp)
  have hzl : (Builtin.zeroCells z.cells (n - i)).toList.length = (n - i) * sz := by simp [Builtin.zeroCells, hz]
  have hfit : i * sz + (n - i) * sz ≤ cur.size := by
    rw [← Nat.add_mul, hcs]
    exact Nat.mul_le_mul_right _ (by omega)
  have hst := run_storeCells_cells (P := P) g (i * sz) (Builtin.zeroCells z.cells (n - i)).toList 0 W (fun j hj => by
    rw [cell_of_row W g _ cur e (0, 0) hh]
    simp
    omega) (fun j _ => blk_frozen hh _) hone
  simp only [Nat.add_zero] at hst
  obtain ⟨cur', h3, h4, h5⟩ := setCells_row (Builtin.zeroCells z.cells (n - i)).toList (i * sz) W cur hh (by rw [hzl]; exact hfit)
  obtain ⟨s1, s2, s3, s4⟩ := setCells_same g (Builtin.zeroCells z.cells (n - i)).toList (i * sz) W
  refine ⟨W.setCells g (i * sz) (Builtin.zeroCells z.cells (n - i)).toList, ?_, ⟨s1, s2, s3, by rw [s4]; exact Nat.le_refl _, fun k _ hk => setCells_far _ _ k (fun he => hk (by rw [he]))⟩, hok, inner, ?_, ?_⟩
  · obtain ⟨m, hm⟩ : ∃ m, n - i = m + 1 := ⟨n - i - 1, by omega⟩
    rw [hm] at hst ⊢
    simp [Builtin.clear_, run_underlying ht0, hv0, hst]
  · refine ⟨by rw [hil]; exact ho1, .inr ⟨g, c, cur', by rw [hil], hb, h3, by rw [hil]; exact hnc', hcm, by rw [h4]; exact hcs, ?_⟩⟩
    show List.take ((now.take i).length * sz) cur'.toList = inner
    rw [hil, h5, List.append_assoc, List.take_append_of_le_length (by rw [List.length_take, Array.length_toList]; exact Nat.le_min.2 ⟨Nat.le_refl _, Nat.le_trans (Nat.le_add_right _ _) hfit⟩), List.take_take, Nat.min_self, ht]
  · exact hr
set_option maxHeartbeats 3200000 in
set_option maxRecDepth 100000 in
theorem delete_without (p : S92 → Bool) (bx : Addr) (v : Value) (xs : List S92) (ok : Nat → Prop) (w0 w : World) (hB : Below w0.heap.size w0 w) (hN : Kd.N k92 92 w w0.heap.size ok v xs) (hl : xs.length < 1000000000)
    (hF : ∀ (W : World), w.heap.size ≤ W.heap.size → (∀ k, k < w.heap.size → some k ≠ v.ownBlock → W.heap[k]? = w.heap[k]?) → ∀ (x : S92) (A3 : Option Addr) (c3 : Nat) (A4 : Option Addr) (c4 : Nat), Calls Try.prog 81 #[.agg #[.string x.f0, .int .i64 x.f1.f0, .int .i64 x.f1.f1, .string x.f1.f2, .slice A3 x.f1.f3.length c3, .slice A4 x.f1.f4.length c4], .pointer (some bx)] W fun e W' => e = .returned (.bool (p x)) ∧ Below W.heap.size W W') :
    Calls Try.prog 80 #[v, .func (.func 81) #[] #[.pointer (some bx)]] w fun e w' => ∃ v' : Value, e = .returned v' ∧ Kd.N k92 92 w' w0.heap.size ok v' (xs.filter fun x => !p x) ∧ Below w0.heap.size w0 w' := by
  obtain ⟨A, c, rfl⟩ := Kd.N_slice hN
  have hF' := Aside0.mk hF
  have hFi := Aside0.mk (fun (W : World) (hW : Below w.heap.size w W) => hF W hW.size (fun k hk _ => hW.block k hk))
  have HN := Aside0.mk hN
  have HV := Aside0.mk (Kd.N_V (base' := w.heap.size) hN)
  clear hF hN
  rcases idxP_cases p xs with ⟨hi, hall⟩ | ⟨i0, hi, hix, hbef, hpi⟩
  · have hall' := Aside0.mk hall
    clear hall
    go_enter Try.func80, Try.ntmps80
    go_wp2_with (go_at_call 78; with_reducible refine (index_without p bx A c xs ok w HV.out hl hFi.out).mono ?_; rw [hi]; rintro e w1 ⟨rfl, hb⟩; have B1 := Aside0.mk hb; clear hb)
    go_ret
    refine ⟨_, rfl, ?_, below_then hB hB.size B1.out⟩
    rw [List.filter_eq_self.2 (fun x hx => by
      obtain ⟨j, hj, e⟩ := List.getElem_of_mem hx
      rw [← e, hall'.out j hj]
      rfl)]
    exact Kd.N_below HN.out B1.out
  · obtain ⟨h0, rows, hlen, hR, hFK⟩ := HN.out
    obtain ⟨g, cap, hv, hg0, hg1, cells0, hg2⟩ := Kd.R_form hR (by omega)
    injection hv with hA hn hc
    subst hA hc
    have hbef' := Aside0.mk hbef
    have hFK' := Aside0.mk hFK
    have hpi' := Aside0.mk hpi
    have HR := Aside0.mk hR
    clear hbef hFK hpi hR hn
    go_enter Try.func80, Try.ntmps80
    go_wp2_with (go_at_call 78; with_reducible refine (index_without p bx (some ⟨g, 0, none⟩) c xs ok w HV.out hl hFi.out).mono ?_; rw [hix]; rintro e w1 ⟨rfl, hb⟩; have B1 := Aside0.mk hb; clear hb)
    go_loopg [5, 6] (xs.length + 1) (fun kq v5 v6 W => ∃ (i j : Nat) (now : List (List Value)), v5 = .int .i64 (i : Int) ∧ v6 = .int .i64 (j : Int) ∧ Aside0 (xs.length < j + kq) ∧ Aside0 (Del p xs rows i j now) ∧ Aside0 (i < j) ∧ Aside0 ((Kd.raw 6).R 92 W w0.heap.size (fun k => some k = some g) (.slice (some ⟨g, 0, none⟩) xs.length c) now) ∧ Aside0 (Below w0.heap.size w0 W) ∧ Aside0 (w.heap.size ≤ W.heap.size ∧ ∀ k, k < w.heap.size → k ≠ g → W.heap[k]? = w.heap[k]?))
    case atStart => exact ⟨i0, i0 + 1, rows, rfl, by go_num, ⟨by omega⟩, ⟨Del.start hlen hi hbef'.out hpi'.out⟩, ⟨by omega⟩, ⟨Kd.R_below HR.out B1.out⟩, ⟨below_then hB hB.size B1.out⟩, ⟨B1.out.size, fun k hk _ => B1.out.block k hk⟩⟩
    case round =>
      obtain ⟨i, j, now, rfl, rfl, hk, hD, hij, hR, hB1, hW⟩ := hrel
      cases gk with
      | zero => exact absurd hk.out (by have := hD.out.jn; omega)
      | succ k1 =>
        by_cases c5 : j < xs.length
        · have c5b : decide ((j : Int) < (xs.length : Int)) = true := decide_eq_true (by omega)
          have p5 : ((0 : Int) ≤ (j : Int)) = True := eq_true (by omega)
          have q5 : ((j : Int) < (xs.length : Int)) = True := eq_true (by omega)
          have p6 : ((0 : Int) ≤ (i : Int)) = True := eq_true (by omega)
          have q6 : ((i : Int) < (xs.length : Int)) = True := eq_true (by have := hij.out; omega)
          have hjn : j < now.length := by rw [hD.out.len]; exact c5
          have hjr : j < rows.length := by rw [hlen]; exact c5
          have hnj : now[j]? = some rows[j] := by
            have h := congrArg (fun l : List (List Value) => l[0]?) hD.out.tail
            simp only [List.getElem?_drop, Nat.add_zero] at h
            rw [h, List.getElem?_eq_getElem hjr]
          obtain ⟨A3, c3, A4, c4, hrj, x0, x1, x2, x3, x4, x5, _⟩ := entry_raw hR.out c5 hnj (hFK'.out j xs[j] rows[j] (List.getElem?_eq_getElem c5) (List.getElem?_eq_getElem hjr))
          have HRJ := Aside0.mk hrj
          have hx := Aside0.mk (rfl : xs[j] = xs[j])
          clear hrj hnj hjn
          generalize hxj : xs[j] = x at x0 x1 x2 x3 x4 x5 HRJ
          have HXJ := Aside0.mk hxj
          clear hxj hx
          have hle : w.heap.size ≤ wr.heap.size := hW.out.1
          have hcall := Aside0.mk (fun (o : Obj) => hF'.out (wr.alloc o) (Nat.le_trans hle (below_alloc (Below.refl _ wr) o).size) (fun k hk hne => ((below_alloc (Below.refl _ wr) o).block k (Nat.lt_of_lt_of_le hk hle)).trans (hW.out.2 k hk (fun e => hne (by rw [e]; rfl)))) x A3 c3 A4 c4)
          have hgl : g < wr.heap.size := Nat.lt_of_lt_of_le hg1 hle
          cases hp : p x with
          | true =>
            have hp' := Aside0.mk hp
            clear hp
            go_wp2_with (go_at_call 81; with_reducible refine (hcall.out _).mono ?_; rw [hp'.out]; rintro e w2 ⟨rfl, hb⟩; have HB2 := Aside0.mk hb; clear hb)
            go_roundg k1
            case measure => omega
            case rel => exact ⟨i, j + 1, now, rfl, by go_num, ⟨by have := hk.out; omega⟩, ⟨hD.out.gone c5 (by rw [HXJ.out]; exact hp'.out)⟩, ⟨by have := hij.out; omega⟩, ⟨Kd.R_below (Kd.R_alloc hR.out _) HB2.out⟩, ⟨below_then (below_alloc hB1.out _) (Nat.le_trans hB1.out.size (below_alloc (Below.refl _ wr) _).size) HB2.out⟩, ⟨Nat.le_trans hle (Nat.le_trans (below_alloc (Below.refl _ wr) _).size HB2.out.size), fun k hk hne => (HB2.out.block k (Nat.lt_of_lt_of_le hk (Nat.le_trans hle (below_alloc (Below.refl _ wr) _).size))).trans (((below_alloc (Below.refl _ wr) _).block k (Nat.lt_of_lt_of_le hk hle)).trans (hW.out.2 k hk hne))⟩⟩
          | false =>
            have hp' := Aside0.mk hp
            clear hp
            have h1s : Aside0 (∀ q ∈ ([.string x.f0, .int .i64 x.f1.f0, .int .i64 x.f1.f1, .string x.f1.f2, .slice A3 x.f1.f3.length c3, .slice A4 x.f1.f4.length c4] : List Value), q.oneCell' = true) := ⟨by intro u hu; simp only [List.mem_cons, List.not_mem_nil, or_false] at hu; rcases hu with rfl | rfl | rfl | rfl | rfl | rfl <;> rfl⟩
            have hset := Aside0.mk (hD.out.kept c5 (by rw [HXJ.out]; exact hp'.out) hjr)
            have hil : i < xs.length := by have := hij.out; omega
            go_wp2_with (first
              | (go_at_call 81; with_reducible refine (hcall.out _).mono ?_; rw [hp'.out]; rintro e w2 ⟨rfl, hb⟩; have HB2 := Aside0.mk hb; have b7 := blk_below (blk_new wr (.cells #[.string x.f0, .int .i64 x.f1.f0, .int .i64 x.f1.f1, .string x.f1.f2, .slice A3 x.f1.f3.length c3, .slice A4 x.f1.f4.length c4] 92)) hb; have y0 := blk_cell b7 0; have y1 := blk_cell b7 1; have y2 := blk_cell b7 2; have y3 := blk_cell b7 3; have y4 := blk_cell b7 4; have y5 := blk_cell b7 5; simp at y0 y1 y2 y3 y4 y5; clear hb b7; have HR2 := Aside0.mk (Kd.R_below (Kd.R_alloc hR.out (.cells #[.string x.f0, .int .i64 x.f1.f0, .int .i64 x.f1.f1, .string x.f1.f2, .slice A3 x.f1.f3.length c3, .slice A4 x.f1.f4.length c4] 92)) HB2.out); have HB3 := Aside0.mk (below_then (below_alloc hB1.out (.cells #[.string x.f0, .int .i64 x.f1.f0, .int .i64 x.f1.f1, .string x.f1.f2, .slice A3 x.f1.f3.length c3, .slice A4 x.f1.f4.length c4] 92)) (Nat.le_trans hB1.out.size (below_alloc (Below.refl _ wr) _).size) HB2.out))
              | ((with_reducible refine gate_store (t := 92) (p := 33) rfl ?_); obtain ⟨ci, hcli, _, hcci, _⟩ := Kd.R_elem HR2.out [] (i : Int) (by omega) (by omega); have HCI := Aside0.mk hcci; clear hcci; have hE6 : ci.take 0 ++ [.string x.f0, .int .i64 x.f1.f0, .int .i64 x.f1.f1, .string x.f1.f2, .slice A3 x.f1.f3.length c3, .slice A4 x.f1.f4.length c4] ++ ci.drop (0 + ([.string x.f0, .int .i64 x.f1.f0, .int .i64 x.f1.f1, .string x.f1.f2, .slice A3 x.f1.f3.length c3, .slice A4 x.f1.f4.length c4] : List Value).length) = [.string x.f0, .int .i64 x.f1.f0, .int .i64 x.f1.f1, .string x.f1.f2, .slice A3 x.f1.f3.length c3, .slice A4 x.f1.f4.length c4] := (by rw [List.take_zero, List.nil_append, List.drop_eq_nil_of_le (by rw [hcli]; exact Nat.le_refl _), List.append_nil]); refine Kd.R_store (Kd.raw 6) (w0 := w0) w0.heap.size rfl rfl 92 (.tmp 33) (.tmp 32) rfl 92 (i : Int) 0 now [.string x.f0, .int .i64 x.f1.f0, .int .i64 x.f1.f1, .string x.f1.f2, .slice A3 x.f1.f3.length c3, .slice A4 x.f1.f4.length c4] (.agg #[.string x.f0, .int .i64 x.f1.f0, .int .i64 x.f1.f1, .string x.f1.f2, .slice A3 x.f1.f3.length c3, .slice A4 x.f1.f4.length c4]) [.string x.f0, .int .i64 x.f1.f0, .int .i64 x.f1.f1, .string x.f1.f2, .slice A3 x.f1.f3.length c3, .slice A4 x.f1.f4.length c4] ci (fun k => some k = some g) (fun _ => False) rfl (by rw [Int.toNat_natCast]; rfl) rfl rfl (by kernel_rfl) h1s.out HR2.out (by omega) (by omega) hcli HCI.out (Nat.le_refl 6) (by rw [hE6]; exact ⟨rfl, rfl, h1s.out⟩) (fun _ h => h.elim) HB3.out ?_; clear hE6; intro w3 hR3 hB3 hg3; have HR3 := Aside0.mk hR3; have HB4 := Aside0.mk hB3; have HG3 := Aside0.mk hg3; clear hR3 hB3 hg3))
            go_roundg k1
            case measure => omega
            case rel => exact ⟨i + 1, j + 1, now.set i rows[j], by go_num, by go_num, ⟨by have := hk.out; omega⟩, hset, ⟨by have := hij.out; omega⟩, ⟨by have h := HR3.out; rw [Int.toNat_natCast, ← HRJ.out] at h; exact h⟩, HB4, ⟨Nat.le_trans hle (Nat.le_trans (Nat.le_trans (below_alloc (Below.refl _ wr) (.cells #[.string x.f0, .int .i64 x.f1.f0, .int .i64 x.f1.f1, .string x.f1.f2, .slice A3 x.f1.f3.length c3, .slice A4 x.f1.f4.length c4] 92)).size HB2.out.size) HG3.out.size), fun k hk hne => (HG3.out.block k (Nat.lt_of_lt_of_le hk (Nat.le_trans hle (Nat.le_trans (below_alloc (Below.refl _ wr) (.cells #[.string x.f0, .int .i64 x.f1.f0, .int .i64 x.f1.f1, .string x.f1.f2, .slice A3 x.f1.f3.length c3, .slice A4 x.f1.f4.length c4] 92)).size HB2.out.size))) (fun e => hne (by injection e))).trans ((HB2.out.block k (Nat.lt_of_lt_of_le hk (Nat.le_trans hle (below_alloc (Below.refl _ wr) _).size))).trans (((below_alloc (Below.refl _ wr) _).block k (Nat.lt_of_lt_of_le hk hle)).trans (hW.out.2 k hk hne)))⟩⟩
        · have c5b : decide ((j : Int) < (xs.length : Int)) = false := decide_eq_false (by omega)
          have ej : j = xs.length := by have := hD.out.jn; omega
          subst ej
          have hE := Aside0.mk hD.out.ends
          have hnow := Aside0.mk hD.out.len
          have hic : i < xs.length := hij.out
          have hlc : xs.length ≤ c := by have := (Kd.R_reads' hR.out).2.1; exact this
          have hci : ¬ c = i := by omega
          obtain ⟨w2, hcl, hg2, hR2⟩ := raw_clear (P := Try.prog) (ty := 0) Try.underlying88 (z := .agg #[.string ⟨#[]⟩, .int .i64 0, .int .i64 0, .string ⟨#[]⟩, .slice none 0 0, .slice none 0 0]) (fun w => by kernel_rfl) (by kernel_rfl) (by kernel_rfl) (by decide) hR.out hic
          have HR2 := Aside0.mk hR2
          have HG2 := Aside0.mk hg2
          clear hR2 hg2
          go_wp2
          go_ret
          obtain ⟨he1, he2⟩ := hE.out
          refine ⟨_, rfl, ⟨fun k hk => h0 k (by simpa [Value.ownBlock] using hk), now.take i, by rw [List.length_take, hnow.out, ← he1]; omega, Kd.R_mono HR2.out (fun k hk => by simpa [Value.ownBlock] using hk), fun j x cc hj hcc => ?_⟩, hB1.out.grown HG2.out hB1.out.size (fun k hk => by injection hk with hk; omega)⟩
          rw [he2] at hcc
          refine Kd.FK_mono (Kd.FK_step (zip_filter_mem p (fun x r => Kd.FK k92 w (fun k => ok k ∧ some k ≠ (Value.slice (some ⟨g, 0, none⟩) xs.length c).ownBlock) x r) xs rows hlen hFK'.out j x cc hj hcc) (fun k hk hlt => ?_)) (fun k hk => ⟨hk.1, by simpa [Value.ownBlock] using hk.2⟩)
          have hkg : k ≠ g := fun e => hk.2 (by rw [e]; simp [Value.ownBlock])
          exact (HG2.out.block k (Nat.lt_of_lt_of_le hlt hW.out.1) (fun e => hkg (by injection e))).trans (hW.out.2 k hlt hkg)
end Go.Proofs.Ytjdldlphfifggaa.X
end
section
namespace Go.Proofs.Ytjdldlphfifggaa.X
open Go.RowKit Go.Proofs.YtjdldlphfifggaaW.PrintWords Go.Proofs.YtjdldlphfifggaaW.PrintLast
set_option linter.unusedVariables false
theorem evPos {α : Type} {c : Prop} [Decidable c] {f g : Nat → Option α} {r : α} (h : c) (k : Ev f r) : Ev (fun n => if c then f n else g n) r := by
  simpa only [if_pos h] using k
theorem evNeg {α : Type} {c : Prop} [Decidable c] {f g : Nat → Option α} {r : α} (h : ¬ c) (k : Ev g r) : Ev (fun n => if c then f n else g n) r := by
  simpa only [if_neg h] using k
theorem w64 {x : Int} (h0 : -9223372036854775808 ≤ x) (h1 : x ≤ 9223372036854775807) : wrap64 x = x := by unfold wrap64; omega
theorem w64s (i : Nat) (h : i ≤ 9223372036854775806) : wrap64 ((i : Int) + 1) = ((i + 1 : Nat) : Int) := by unfold wrap64; omega
end Go.Proofs.Ytjdldlphfifggaa.X
end
section
namespace Go.Proofs.Ytjdldlphfifggaa.X
open Go.RowKit Go.Proofs.YtjdldlphfifggaaW.PrintWords
set_option linter.unusedVariables false
def bkK : List ByteArray → Nat
  | [] => 0
  | s :: r => s.size + 1 + bkK r
mutual
def bk : S25 → Nat
  | ⟨_, _, s, K, L⟩ => s.size + bkK K + bkL L + 6
def bkL : List S25 → Nat
  | [] => 0
  | x :: r => bk x + bkL r
end
theorem eta_ (x : S25) : (⟨x.f0, x.f1, x.f2, x.f3, x.f4⟩ : S25) = x := by cases x; rfl
theorem bk_eq (x : S25) : bk x = x.f2.size + bkK x.f3 + bkL x.f4 + 6 := by
  cases x
  rw [bk]
theorem bkK_len : ∀ l : List ByteArray, l.length ≤ bkK l
  | [] => Nat.le_refl _
  | s :: r => by
    have := bkK_len r
    simp only [bkK, List.length_cons]
    omega
theorem bk_pos (x : S25) : 6 ≤ bk x := by rw [bk_eq]; omega
theorem bkL_len : ∀ l : List S25, 6 * l.length ≤ bkL l
  | [] => Nat.le_refl _
  | s :: r => by
    have := bkL_len r
    have := bk_pos s
    simp only [bkL, List.length_cons]
    omega
theorem bkL_mem : ∀ {l : List S25} {x}, x ∈ l → bk x ≤ bkL l
  | y :: r, x, h => by
    simp only [bkL]
    rcases List.mem_cons.1 h with rfl | h
    · omega
    · have := bkL_mem h
      omega
theorem bkK_mem : ∀ {l : List ByteArray} {x}, x ∈ l → x.size ≤ bkK l
  | y :: r, x, h => by
    simp only [bkK]
    rcases List.mem_cons.1 h with rfl | h
    · omega
    · have := bkK_mem h
      omega
end Go.Proofs.Ytjdldlphfifggaa.X
end
section
namespace Go.Proofs.Ytjdldlphfifggaa.X
open Go.RowKit Go.Proofs.YtjdldlphfifggaaW.PrintWords Go.Proofs.YtjdldlphfifggaaW.PrintLast Go.Proofs.YtjdldlphfifggaaW.PrintMore
attribute [local go_sem] max2_int min2_int max_two min_two max_three min_three max_four min_four
set_option linter.unusedVariables false
set_option linter.unusedSimpArgs false
mutual
def sealringref07_Depth.l0 : Nat → Int → Int → Int → Int → ByteArray → List ByteArray → List (S25) → Option (Int)
  | 0, _, _, _, _, _, _, _ => none
  | k + 1, x3, x4, x102000, x102001, x102002, x102003, x102004 => if x4 < (x102004.length : Int) then (if 0 ≤ x4 then ((sealringref07_Depth.f k ((rd_T25 x102004 x4).f0) ((rd_T25 x102004 x4).f1) ((rd_T25 x102004 x4).f2) ((rd_T25 x102004 x4).f3) ((rd_T25 x102004 x4).f4)).bind fun t103 => (if t103 > x3 then (sealringref07_Depth.l0 k t103 (wrap64 (x4 + 1)) x102000 x102001 x102002 x102003 x102004) else (sealringref07_Depth.l0 k x3 (wrap64 (x4 + 1)) x102000 x102001 x102002 x102003 x102004))) else (none)) else (some (wrap64 (x3 + 1)))
def sealringref07_Depth.f : Nat → Int → Int → ByteArray → List ByteArray → List (S25) → Option (Int)
  | 0, _, _, _, _, _ => none
  | k + 1, a0_0, a0_1, a0_2, l0_3, l0_4 => sealringref07_Depth.l0 k 0 0 a0_0 a0_1 a0_2 l0_3 l0_4
end
theorem sealringref07_Depth.mono_l : ∀ k, (∀ y0 y1 y2 y3 y4, LeO (sealringref07_Depth.f k y0 y1 y2 y3 y4) (sealringref07_Depth.f (k + 1) y0 y1 y2 y3 y4)) ∧ (∀ y0 y1 y2 y3 y4 y5 y6, LeO (sealringref07_Depth.l0 k y0 y1 y2 y3 y4 y5 y6) (sealringref07_Depth.l0 (k + 1) y0 y1 y2 y3 y4 y5 y6))
  | 0 => ⟨fun _ _ _ _ _ r h => by simp [sealringref07_Depth.f] at h, fun _ _ _ _ _ _ _ r h => by simp [sealringref07_Depth.l0] at h⟩
  | k + 1 => by
    obtain ⟨ih0, ih1⟩ := sealringref07_Depth.mono_l k
    refine ⟨?_, ?_⟩
    · intro y0 y1 y2 y3 y4
      unfold sealringref07_Depth.f
      repeat' first
      | (with_reducible exact ih0 _ _ _ _ _)
      | (with_reducible exact ih1 _ _ _ _ _ _ _)
      | (with_reducible exact LeO.refl _)
      | (with_reducible exact LeO.none _)
      | (with_reducible refine LeO.ite ?_ ?_)
      | (with_reducible refine LeO.bind ?_ (fun _ => ?_))
      | exact ih0 _ _ _ _ _
      | exact ih1 _ _ _ _ _ _ _
      | exact LeO.none _
      | refine LeO.ite ?_ ?_
      | refine LeO.bind ?_ (fun _ => ?_)
    · intro y0 y1 y2 y3 y4 y5 y6
      unfold sealringref07_Depth.l0
      repeat' first
      | (with_reducible exact ih0 _ _ _ _ _)
      | (with_reducible exact ih1 _ _ _ _ _ _ _)
      | (with_reducible exact LeO.refl _)
      | (with_reducible exact LeO.none _)
      | (with_reducible refine LeO.ite ?_ ?_)
      | (with_reducible refine LeO.bind ?_ (fun _ => ?_))
      | exact ih0 _ _ _ _ _
      | exact ih1 _ _ _ _ _ _ _
      | exact LeO.none _
      | refine LeO.ite ?_ ?_
      | refine LeO.bind ?_ (fun _ => ?_)
theorem sealringref07_Depth.mono : ∀ a0 a1 a2 a3 a4 k, LeO (sealringref07_Depth.f k a0 a1 a2 a3 a4) (sealringref07_Depth.f (k + 1) a0 a1 a2 a3 a4) := by
  intro a0 a1 a2 a3 a4 k
  obtain ⟨ih0, ih1⟩ := sealringref07_Depth.mono_l k
  exact ih0 a0 a1 a2 a3 a4
set_option maxHeartbeats 8000000 in
set_option maxRecDepth 100000 in
theorem sealringref07_Depth.calls (k : Nat) : ∀ (a0_0 : Int) (a0_1 : Int) (a0_2 : ByteArray) (A0_3 : Option Addr) (c0_3 : Nat) (l0_3 : List ByteArray) (A0_4 : Option Addr) (c0_4 : Nat) (l0_4 : List (S25)) (r : Int) (w : World) (hr0_3 : Kd.C Kd.string w A0_3 l0_3.length l0_3) (hc0_3 : l0_3.length ≤ c0_3) (hr0_4 : Kd.C k25 w A0_4 l0_4.length l0_4) (hc0_4 : l0_4.length ≤ c0_4) (h : sealringref07_Depth.f k a0_0 a0_1 a0_2 l0_3 l0_4 = some r),
    Calls Try.prog 26 #[.agg #[.int .i64 a0_0, .int .i64 a0_1, .string a0_2, .slice A0_3 l0_3.length c0_3, .slice A0_4 l0_4.length c0_4]] w fun e w' => e = .returned (.int .i64 r) ∧ Below w.heap.size w w' := by
  induction k using Nat.strongRecOn with
  | _ k ih =>
  intro a0_0 a0_1 a0_2 A0_3 c0_3 l0_3 A0_4 c0_4 l0_4 r w hr0_3 hc0_3 hr0_4 hc0_4 h
  cases k with
  | zero => exact absurd h (by simp [sealringref07_Depth.f])
  | succ k =>
  simp only [sealringref07_Depth.f] at h
  have hu25 := Try.underlying25
  have HR0_3 := Aside0.mk hr0_3
  have HC0_3 := Aside0.mk hc0_3
  clear hr0_3 hc0_3
  have HR0_4 := Aside0.mk hr0_4
  have HC0_4 := Aside0.mk hc0_4
  clear hr0_4 hc0_4
  have HB := Aside0.mk (Below.refl w.heap.size w)
  have H : (sealringref07_Depth.l0 k 0 0 a0_0 a0_1 a0_2 l0_3 l0_4) = some r := h
  clear h
  have H' := Aside0.mk H
  clear H
  go_enter Try.func26, Try.ntmps26
  go_wp2_with (first | ((with_reducible refine gate_dst (N := 1) rfl ?_); refine box_event ?hg (N := 1) ?hd (cs := #[.int .i64 a0_0, .int .i64 a0_1, .string a0_2, .slice A0_3 l0_3.length c0_3, .slice A0_4 l0_4.length c0_4]) (t := 25) ?hr ?_; (case hd => rfl); (case hg => rfl); (case hr => first | (go_simp; done) | (go_simp; rfl)); intro gb101 hg w2 hbox hb; have n0_ := Aside0.mk (below_step (by repeat (first | (with_reducible first | exact HB.out | apply below_alloc | apply pw_below_drewN | apply below_drew1) | exact HB.out)) hb); have n1_ := Aside0.mk (hbox); have n2_ := Aside0.mk ((by rw [hg]; exact (below_size (by repeat (first | (with_reducible first | exact HB.out | apply below_alloc | apply pw_below_drewN | apply below_drew1) | exact HB.out))) : w.heap.size ≤ gb101)); have n3_ := Aside0.mk ((by rw [hg]; exact (below_size (by repeat (first | (with_reducible first | exact HB.out | apply below_alloc | apply pw_below_drewN | apply below_drew1) | exact HB.out))) : w.heap.size ≤ gb101)); clear HB; have HB := n0_; have BK101 := n1_; have GW101 := n2_; have GE101 := n3_; clear n0_ n1_ n2_ n3_; clear hb hbox hg))
  go_loopg [3, 4] k (fun kq v3 v4 w' => ∃ (x3_1 : Int) (x4_1 : Int), v3 = .int .i64 x3_1 ∧ v4 = .int .i64 x4_1 ∧ Aside0 (sealringref07_Depth.l0 kq x3_1 x4_1 a0_0 a0_1 a0_2 l0_3 l0_4 = some r) ∧ Aside0 (kq ≤ k) ∧ Aside0 (w'.heap[gb101]? = some (.cells #[.int .i64 a0_0, .int .i64 a0_1, .string a0_2, (.slice A0_3 l0_3.length c0_3), (.slice A0_4 l0_4.length c0_4)] 25 (0, 0))) ∧ Aside0 (Below w.heap.size w w'))
  case atStart => exact ⟨(0), (0), (by first | rfl | (simp; done) | (simp [*]; done)), (by first | rfl | (simp; done) | (simp [*]; done)), (by first | with_reducible exact H' | exact H' | (subst_vars; exact H')), ⟨Nat.le_refl _⟩, ⟨by (with_reducible repeat (first | refine blk_drewN ?_ _ | refine blk_drew ?_ | refine blk_alloc ?_ _)); exact BK101.out⟩, ⟨by repeat (first | (with_reducible first | exact HB.out | apply below_alloc | apply pw_below_drewN | apply below_drew1 | refine below_set ?_ GE101.out) | exact HB.out)⟩⟩
  case round =>
    clear H'
    try clear c2
    try clear p2
    obtain ⟨x3_1, x4_1, rfl, rfl, HA, HK1, BK101, HB⟩ := hrel
    cases gk with
    | zero => exact absurd HA.out (by simp [sealringref07_Depth.l0])
    | succ k1 =>
      have H := HA.out
      clear HA
      simp only [sealringref07_Depth.l0] at H
      by_cases c3 : x4_1 < (l0_4.length : Int)
      · rw [if_pos c3] at H
        have c3b0 : decide (x4_1 < (l0_4.length : Int)) = true := decide_eq_true c3
        clear c3
        by_cases c4 : 0 ≤ x4_1
        · rw [if_pos c4] at H
          have c4b0 : decide (0 ≤ x4_1) = true := decide_eq_true c4
          clear c4
          replace H := Option.bind_eq_some_iff.mp H
          obtain ⟨t103, A50, H⟩ := H
          replace H : (if t103 > x3_1 then (sealringref07_Depth.l0 k1 t103 (wrap64 (x4_1 + 1)) a0_0 a0_1 a0_2 l0_3 l0_4) else (sealringref07_Depth.l0 k1 x3_1 (wrap64 (x4_1 + 1)) a0_0 a0_1 a0_2 l0_3 l0_4)) = some r := H
          have A5 := Aside0.mk A50
          clear A50
          by_cases c6 : t103 > x3_1
          · rw [if_pos c6] at H
            have c6b0 : decide (x3_1 < t103) = true := decide_eq_true c6
            clear c6
            have H' := Aside0.mk H
            clear H
            have hcz7_0 : wr.cell? ⟨gb101, 0, none⟩ = some (.int .i64 a0_0) := (blk_cell BK101.out 0).trans rfl
            have hcz7_1 : wr.cell? ⟨gb101, 1, none⟩ = some (.int .i64 a0_1) := (blk_cell BK101.out 1).trans rfl
            have hcz7_2 : wr.cell? ⟨gb101, 2, none⟩ = some (.string a0_2) := (blk_cell BK101.out 2).trans rfl
            have hcz7_3 : wr.cell? ⟨gb101, 3, none⟩ = some (.slice A0_3 l0_3.length c0_3) := (blk_cell BK101.out 3).trans rfl
            have hcz7_4 : wr.cell? ⟨gb101, 4, none⟩ = some (.slice A0_4 l0_4.length c0_4) := (blk_cell BK101.out 4).trans rfl
            have hfz7_0 := blk_frozen BK101.out 0
            have hfz7_1 := blk_frozen BK101.out 1
            have hfz7_2 := blk_frozen BK101.out 2
            have hfz7_3 := blk_frozen BK101.out 3
            have hfz7_4 := blk_frozen BK101.out 4
            have p102 : 0 ≤ (x4_1 : Int) := of_decide_eq_true (by first | (with_reducible assumption) | assumption)
            have q102 : x4_1 < (l0_4.length : Int) := of_decide_eq_true (by first | (with_reducible assumption) | assumption)
            obtain ⟨ad102, A102_3, c102_3, A102_4, c102_4, e102, hx102_0, hx102_1, hx102_2, hx102_3, hx102_4, hl102_3, hi102_3, hl102_4, hi102_4⟩ := at_T25 HR0_4.out x4_1 p102 q102
            cases e102
            (try replace hx102_0 := (HB.out.cell (World.block_lt_of_cell? w _ hx102_0)).trans hx102_0)
            (try replace hx102_1 := (HB.out.cell (World.block_lt_of_cell? w _ hx102_1)).trans hx102_1)
            (try replace hx102_2 := (HB.out.cell (World.block_lt_of_cell? w _ hx102_2)).trans hx102_2)
            (try replace hx102_3 := (HB.out.cell (World.block_lt_of_cell? w _ hx102_3)).trans hx102_3)
            (try replace hx102_4 := (HB.out.cell (World.block_lt_of_cell? w _ hx102_4)).trans hx102_4)
            have HR102_3 := Aside0.mk hi102_3
            have HC102_3 := Aside0.mk hl102_3
            clear hi102_3 hl102_3
            have HR102_4 := Aside0.mk hi102_4
            have HC102_4 := Aside0.mk hl102_4
            clear hi102_4 hl102_4
            replace p102 := eq_true p102
            replace q102 := eq_true q102
            go_wp2_with (first | ((with_reducible refine gate_callee (f := 26) rfl ?_); refine goesL_ (some 18) rfl rfl Try.func26 (by kernel_rfl) rfl #[.agg #[.int .i64 ((rd_T25 l0_4 x4_1).f0), .int .i64 ((rd_T25 l0_4 x4_1).f1), .string ((rd_T25 l0_4 x4_1).f2), .slice A102_3 ((rd_T25 l0_4 x4_1).f3).length c102_3, .slice A102_4 ((rd_T25 l0_4 x4_1).f4).length c102_4]] rfl (by (try simp only [List.map_toArray, List.map_cons, List.map_nil]); first | done | rfl | (simp only [List.length_drop, List.length_take]; rfl)) ?_; (with_reducible refine (ih k1 (by have := HK1.out; omega) ((rd_T25 l0_4 x4_1).f0) ((rd_T25 l0_4 x4_1).f1) ((rd_T25 l0_4 x4_1).f2) _ _ ((rd_T25 l0_4 x4_1).f3) _ _ ((rd_T25 l0_4 x4_1).f4) t103 _ ?side1 ?side2 ?side3 ?side4 A5.out).mono ?_); (case side1 => repeat (first | exact (Kd.C_below HR102_3.out HB.out) | (with_reducible refine Kd.C_alloc ?_ _) | (with_reducible refine Kd.C_drewN ?_ _) | (with_reducible refine Kd.C_drew ?_))); (case side2 => exact HC102_3.out); (case side3 => repeat (first | exact (Kd.C_below HR102_4.out HB.out) | (with_reducible refine Kd.C_alloc ?_ _) | (with_reducible refine Kd.C_drewN ?_ _) | (with_reducible refine Kd.C_drew ?_))); (case side4 => exact HC102_4.out); rintro e w8 ⟨rfl, hb⟩; refine ⟨_, rfl, ?_⟩; have n0_ := Aside0.mk (blk_below (g := gb101) (o := .cells #[.int .i64 a0_0, .int .i64 a0_1, .string a0_2, .slice A0_3 l0_3.length c0_3, .slice (some ad102) l0_4.length c0_4] 25 (0, 0)) (by (with_reducible repeat (first | refine blk_drewN ?_ _ | refine blk_drew ?_ | refine blk_alloc ?_ _)); exact BK101.out) hb); have n1_ := Aside0.mk (below_step (by repeat (first | (with_reducible first | exact HB.out | apply below_alloc | apply pw_below_drewN | apply below_drew1 | refine below_set ?_ GE101.out) | exact HB.out)) hb); clear BK101; clear HB; have BK101 := n0_; have HB := n1_; clear n0_ n1_; (try clear hb); (try clear hb2); (try clear hk); (try clear hi)))
            go_roundg k1
            case measure => have := HK1.out; omega
            case rel => exact ⟨(t103), (wrap64 (x4_1 + 1)), (by first | rfl | (simp; done) | (simp [*]; done)), (by first | rfl | (simp; done) | (simp [*]; done)), (by first | with_reducible exact H' | exact H' | (subst_vars; exact H')), ⟨by have := HK1.out; omega⟩, ⟨by (with_reducible repeat (first | refine blk_drewN ?_ _ | refine blk_drew ?_ | refine blk_alloc ?_ _)); exact BK101.out⟩, ⟨by repeat (first | (with_reducible first | exact HB.out | apply below_alloc | apply pw_below_drewN | apply below_drew1 | refine below_set ?_ GE101.out) | exact HB.out)⟩⟩
          · rw [if_neg c6] at H
            have c6b0 : decide (x3_1 < t103) = false := decide_eq_false c6
            clear c6
            have H' := Aside0.mk H
            clear H
            have hcz9_0 : wr.cell? ⟨gb101, 0, none⟩ = some (.int .i64 a0_0) := (blk_cell BK101.out 0).trans rfl
            have hcz9_1 : wr.cell? ⟨gb101, 1, none⟩ = some (.int .i64 a0_1) := (blk_cell BK101.out 1).trans rfl
            have hcz9_2 : wr.cell? ⟨gb101, 2, none⟩ = some (.string a0_2) := (blk_cell BK101.out 2).trans rfl
            have hcz9_3 : wr.cell? ⟨gb101, 3, none⟩ = some (.slice A0_3 l0_3.length c0_3) := (blk_cell BK101.out 3).trans rfl
            have hcz9_4 : wr.cell? ⟨gb101, 4, none⟩ = some (.slice A0_4 l0_4.length c0_4) := (blk_cell BK101.out 4).trans rfl
            have hfz9_0 := blk_frozen BK101.out 0
            have hfz9_1 := blk_frozen BK101.out 1
            have hfz9_2 := blk_frozen BK101.out 2
            have hfz9_3 := blk_frozen BK101.out 3
            have hfz9_4 := blk_frozen BK101.out 4
            have p102 : 0 ≤ (x4_1 : Int) := of_decide_eq_true (by first | (with_reducible assumption) | assumption)
            have q102 : x4_1 < (l0_4.length : Int) := of_decide_eq_true (by first | (with_reducible assumption) | assumption)
            obtain ⟨ad102, A102_3, c102_3, A102_4, c102_4, e102, hx102_0, hx102_1, hx102_2, hx102_3, hx102_4, hl102_3, hi102_3, hl102_4, hi102_4⟩ := at_T25 HR0_4.out x4_1 p102 q102
            cases e102
            (try replace hx102_0 := (HB.out.cell (World.block_lt_of_cell? w _ hx102_0)).trans hx102_0)
            (try replace hx102_1 := (HB.out.cell (World.block_lt_of_cell? w _ hx102_1)).trans hx102_1)
            (try replace hx102_2 := (HB.out.cell (World.block_lt_of_cell? w _ hx102_2)).trans hx102_2)
            (try replace hx102_3 := (HB.out.cell (World.block_lt_of_cell? w _ hx102_3)).trans hx102_3)
            (try replace hx102_4 := (HB.out.cell (World.block_lt_of_cell? w _ hx102_4)).trans hx102_4)
            have HR102_3 := Aside0.mk hi102_3
            have HC102_3 := Aside0.mk hl102_3
            clear hi102_3 hl102_3
            have HR102_4 := Aside0.mk hi102_4
            have HC102_4 := Aside0.mk hl102_4
            clear hi102_4 hl102_4
            replace p102 := eq_true p102
            replace q102 := eq_true q102
            go_wp2_with (first | ((with_reducible refine gate_callee (f := 26) rfl ?_); refine goesL_ (some 18) rfl rfl Try.func26 (by kernel_rfl) rfl #[.agg #[.int .i64 ((rd_T25 l0_4 x4_1).f0), .int .i64 ((rd_T25 l0_4 x4_1).f1), .string ((rd_T25 l0_4 x4_1).f2), .slice A102_3 ((rd_T25 l0_4 x4_1).f3).length c102_3, .slice A102_4 ((rd_T25 l0_4 x4_1).f4).length c102_4]] rfl (by (try simp only [List.map_toArray, List.map_cons, List.map_nil]); first | done | rfl | (simp only [List.length_drop, List.length_take]; rfl)) ?_; (with_reducible refine (ih k1 (by have := HK1.out; omega) ((rd_T25 l0_4 x4_1).f0) ((rd_T25 l0_4 x4_1).f1) ((rd_T25 l0_4 x4_1).f2) _ _ ((rd_T25 l0_4 x4_1).f3) _ _ ((rd_T25 l0_4 x4_1).f4) t103 _ ?side1 ?side2 ?side3 ?side4 A5.out).mono ?_); (case side1 => repeat (first | exact (Kd.C_below HR102_3.out HB.out) | (with_reducible refine Kd.C_alloc ?_ _) | (with_reducible refine Kd.C_drewN ?_ _) | (with_reducible refine Kd.C_drew ?_))); (case side2 => exact HC102_3.out); (case side3 => repeat (first | exact (Kd.C_below HR102_4.out HB.out) | (with_reducible refine Kd.C_alloc ?_ _) | (with_reducible refine Kd.C_drewN ?_ _) | (with_reducible refine Kd.C_drew ?_))); (case side4 => exact HC102_4.out); rintro e w10 ⟨rfl, hb⟩; refine ⟨_, rfl, ?_⟩; have n0_ := Aside0.mk (blk_below (g := gb101) (o := .cells #[.int .i64 a0_0, .int .i64 a0_1, .string a0_2, .slice A0_3 l0_3.length c0_3, .slice (some ad102) l0_4.length c0_4] 25 (0, 0)) (by (with_reducible repeat (first | refine blk_drewN ?_ _ | refine blk_drew ?_ | refine blk_alloc ?_ _)); exact BK101.out) hb); have n1_ := Aside0.mk (below_step (by repeat (first | (with_reducible first | exact HB.out | apply below_alloc | apply pw_below_drewN | apply below_drew1 | refine below_set ?_ GE101.out) | exact HB.out)) hb); clear BK101; clear HB; have BK101 := n0_; have HB := n1_; clear n0_ n1_; (try clear hb); (try clear hb2); (try clear hk); (try clear hi)))
            go_roundg k1
            case measure => have := HK1.out; omega
            case rel => exact ⟨(x3_1), (wrap64 (x4_1 + 1)), (by first | rfl | (simp; done) | (simp [*]; done)), (by first | rfl | (simp; done) | (simp [*]; done)), (by first | with_reducible exact H' | exact H' | (subst_vars; exact H')), ⟨by have := HK1.out; omega⟩, ⟨by (with_reducible repeat (first | refine blk_drewN ?_ _ | refine blk_drew ?_ | refine blk_alloc ?_ _)); exact BK101.out⟩, ⟨by repeat (first | (with_reducible first | exact HB.out | apply below_alloc | apply pw_below_drewN | apply below_drew1 | refine below_set ?_ GE101.out) | exact HB.out)⟩⟩
        · rw [if_neg c4] at H
          exact absurd H (by simp)
      · rw [if_neg c3] at H
        have c3b0 : decide (x4_1 < (l0_4.length : Int)) = false := decide_eq_false c3
        clear c3
        obtain rfl := Option.some.inj H
        have hcz11_0 : wr.cell? ⟨gb101, 0, none⟩ = some (.int .i64 a0_0) := (blk_cell BK101.out 0).trans rfl
        have hcz11_1 : wr.cell? ⟨gb101, 1, none⟩ = some (.int .i64 a0_1) := (blk_cell BK101.out 1).trans rfl
        have hcz11_2 : wr.cell? ⟨gb101, 2, none⟩ = some (.string a0_2) := (blk_cell BK101.out 2).trans rfl
        have hcz11_3 : wr.cell? ⟨gb101, 3, none⟩ = some (.slice A0_3 l0_3.length c0_3) := (blk_cell BK101.out 3).trans rfl
        have hcz11_4 : wr.cell? ⟨gb101, 4, none⟩ = some (.slice A0_4 l0_4.length c0_4) := (blk_cell BK101.out 4).trans rfl
        have hfz11_0 := blk_frozen BK101.out 0
        have hfz11_1 := blk_frozen BK101.out 1
        have hfz11_2 := blk_frozen BK101.out 2
        have hfz11_3 := blk_frozen BK101.out 3
        have hfz11_4 := blk_frozen BK101.out 4
        go_wp2
        go_ret
        exact ⟨by first | rfl | (simp [errW_none, errW_some] <;> rfl) | (simp [*, errW_none, errW_some] <;> rfl), by repeat (first | (with_reducible first | exact HB.out | apply below_alloc | apply pw_below_drewN | apply below_drew1 | refine below_set ?_ GE101.out) | exact HB.out)⟩
end Go.Proofs.Ytjdldlphfifggaa.X
end
section
namespace Go.Proofs.Ytjdldlphfifggaa.X
open Go.RowKit Go.Proofs.YtjdldlphfifggaaW.PrintWords Go.Proofs.YtjdldlphfifggaaW.PrintLast Go.Proofs.YtjdldlphfifggaaW.PrintMore
attribute [local go_sem] max2_int min2_int max_two min_two max_three min_three max_four min_four
set_option linter.unusedVariables false
set_option linter.unusedSimpArgs false
mutual
def sealringref07_All.l0 : Nat → List (S25) → Int → Int → Int → ByteArray → List ByteArray → List (S25) → Option ((List (S25)))
  | 0, _, _, _, _, _, _, _ => none
  | k + 1, x3, x4, x105000, x105001, x105002, x105003, x105004 => if x4 < (x105004.length : Int) then (if 0 ≤ x4 then ((sealringref07_All.f k ((rd_T25 x105004 x4).f0) ((rd_T25 x105004 x4).f1) ((rd_T25 x105004 x4).f2) ((rd_T25 x105004 x4).f3) ((rd_T25 x105004 x4).f4)).bind fun t109 => (if x3.length + t109.length < 1759218604441 then (sealringref07_All.l0 k (x3 ++ t109) (wrap64 (x4 + 1)) x105000 x105001 x105002 x105003 x105004) else (none))) else (none)) else (some x3)
def sealringref07_All.f : Nat → Int → Int → ByteArray → List ByteArray → List (S25) → Option ((List (S25)))
  | 0, _, _, _, _, _ => none
  | k + 1, a0_0, a0_1, a0_2, l0_3, l0_4 => sealringref07_All.l0 k (([(⟨a0_0, a0_1, a0_2, l0_3, l0_4⟩ : S25)] : List (S25))) 0 a0_0 a0_1 a0_2 l0_3 l0_4
end
theorem sealringref07_All.mono_l : ∀ k, (∀ y0 y1 y2 y3 y4, LeO (sealringref07_All.f k y0 y1 y2 y3 y4) (sealringref07_All.f (k + 1) y0 y1 y2 y3 y4)) ∧ (∀ y0 y1 y2 y3 y4 y5 y6, LeO (sealringref07_All.l0 k y0 y1 y2 y3 y4 y5 y6) (sealringref07_All.l0 (k + 1) y0 y1 y2 y3 y4 y5 y6))
  | 0 => ⟨fun _ _ _ _ _ r h => by simp [sealringref07_All.f] at h, fun _ _ _ _ _ _ _ r h => by simp [sealringref07_All.l0] at h⟩
  | k + 1 => by
    obtain ⟨ih0, ih1⟩ := sealringref07_All.mono_l k
    refine ⟨?_, ?_⟩
    · intro y0 y1 y2 y3 y4
      unfold sealringref07_All.f
      repeat' first
      | (with_reducible exact ih0 _ _ _ _ _)
      | (with_reducible exact ih1 _ _ _ _ _ _ _)
      | (with_reducible exact LeO.refl _)
      | (with_reducible exact LeO.none _)
      | (with_reducible refine LeO.ite ?_ ?_)
      | (with_reducible refine LeO.bind ?_ (fun _ => ?_))
      | exact ih0 _ _ _ _ _
      | exact ih1 _ _ _ _ _ _ _
      | exact LeO.none _
      | refine LeO.ite ?_ ?_
      | refine LeO.bind ?_ (fun _ => ?_)
    · intro y0 y1 y2 y3 y4 y5 y6
      unfold sealringref07_All.l0
      repeat' first
      | (with_reducible exact ih0 _ _ _ _ _)
      | (with_reducible exact ih1 _ _ _ _ _ _ _)
      | (with_reducible exact LeO.refl _)
      | (with_reducible exact LeO.none _)
      | (with_reducible refine LeO.ite ?_ ?_)
      | (with_reducible refine LeO.bind ?_ (fun _ => ?_))
      | exact ih0 _ _ _ _ _
      | exact ih1 _ _ _ _ _ _ _
      | exact LeO.none _
      | refine LeO.ite ?_ ?_
      | refine LeO.bind ?_ (fun _ => ?_)
theorem sealringref07_All.mono : ∀ a0 a1 a2 a3 a4 k, LeO (sealringref07_All.f k a0 a1 a2 a3 a4) (sealringref07_All.f (k + 1) a0 a1 a2 a3 a4) := by
  intro a0 a1 a2 a3 a4 k
  obtain ⟨ih0, ih1⟩ := sealringref07_All.mono_l k
  exact ih0 a0 a1 a2 a3 a4
set_option maxHeartbeats 8000000 in
set_option maxRecDepth 100000 in
theorem sealringref07_All.calls (k : Nat) : ∀ (a0_0 : Int) (a0_1 : Int) (a0_2 : ByteArray) (P0_3_ : Nat → Prop) (A0_3 : Option Addr) (c0_3 : Nat) (l0_3 : List ByteArray) (P0_4_ : Nat → Prop) (A0_4 : Option Addr) (c0_4 : Nat) (l0_4 : List (S25)) (r : List (S25)) (w : World) (hs0_3 : Kd.V Kd.string 9 w w.heap.size (fun k_ => P0_3_ k_) (.slice A0_3 l0_3.length c0_3) l0_3) (hs0_4 : Kd.V k25 25 w w.heap.size (fun k_ => P0_4_ k_) (.slice A0_4 l0_4.length c0_4) l0_4) (h : sealringref07_All.f k a0_0 a0_1 a0_2 l0_3 l0_4 = some r),
    Calls Try.prog 28 #[.agg #[.int .i64 a0_0, .int .i64 a0_1, .string a0_2, .slice A0_3 l0_3.length c0_3, .slice A0_4 l0_4.length c0_4]] w fun e w' => ∃ v0_ : Value, e = .returned (v0_) ∧ Kd.N k25 25 w' w.heap.size (fun k_ => ((P0_3_ k_ ∨ P0_4_ k_) ∨ w.heap.size ≤ k_)) v0_ r ∧ Below w.heap.size w w' := by
  induction k using Nat.strongRecOn with
  | _ k ih =>
  intro a0_0 a0_1 a0_2 P0_3_ A0_3 c0_3 l0_3 P0_4_ A0_4 c0_4 l0_4 r w hs0_3 hs0_4 h
  cases k with
  | zero => exact absurd h (by simp [sealringref07_All.f])
  | succ k =>
  simp only [sealringref07_All.f] at h
  have hu25 := Try.underlying25
  have HO0_3 := Aside0.mk (show Kd.V Kd.string 9 w w.heap.size (fun k_ => ((P0_3_ k_ ∨ P0_4_ k_) ∨ w.heap.size ≤ k_)) (.slice A0_3 l0_3.length c0_3) l0_3 from Kd.V_mono hs0_3 (fun k_ hk => .inl (.inl hk)))
  have HO0_4 := Aside0.mk (show Kd.V k25 25 w w.heap.size (fun k_ => ((P0_3_ k_ ∨ P0_4_ k_) ∨ w.heap.size ≤ k_)) (.slice A0_4 l0_4.length c0_4) l0_4 from Kd.V_mono hs0_4 (fun k_ hk => .inl (.inr hk)))
  have HB := Aside0.mk (Below.refl w.heap.size w)
  have H : (sealringref07_All.l0 k (([(⟨a0_0, a0_1, a0_2, l0_3, l0_4⟩ : S25)] : List (S25))) 0 a0_0 a0_1 a0_2 l0_3 l0_4) = some r := h
  clear h
  obtain ⟨y105, hy105⟩ : ∃ y_ : List (S25), y_ = (([(⟨a0_0, a0_1, a0_2, l0_3, l0_4⟩ : S25)] : List (S25))) := ⟨_, rfl⟩
  replace H : (sealringref07_All.l0 k y105 0 a0_0 a0_1 a0_2 l0_3 l0_4) = some r := by first | (rw [hy105]; with_reducible exact H) | (have H2_ := (Option.bind_some _ _).symm.trans H; rw [hy105]; with_reducible exact H2_) | (have H2_ := (Option.bind_some _ _).symm.trans H; with_reducible exact H2_) | with_reducible exact H | (rw [hy105]; exact H) | exact H
  have Ny105 := Aside0.mk hy105
  clear hy105
  have H' := Aside0.mk H
  clear H
  go_enter Try.func28, Try.ntmps28
  go_wp2_with (first | ((with_reducible refine gate_dst (N := 1) rfl ?_); refine box_event ?hg (N := 1) ?hd (cs := #[.int .i64 a0_0, .int .i64 a0_1, .string a0_2, .slice A0_3 l0_3.length c0_3, .slice A0_4 l0_4.length c0_4]) (t := 25) ?hr ?_; (case hd => rfl); (case hg => rfl); (case hr => first | (go_simp; done) | (go_simp; rfl)); intro gb104 hg w2 hbox hb; have n0_ := Aside0.mk (Kd.V_below (Kd.V_elderB (by (with_reducible repeat (first | apply Kd.V_alloc | apply Kd.V_drewN | apply Kd.V_drew)); exact HO0_3.out) gb104 (Nat.le_of_eq hg.symm)) hb); have n1_ := Aside0.mk (Kd.V_below (Kd.V_elderB (by (with_reducible repeat (first | apply Kd.V_alloc | apply Kd.V_drewN | apply Kd.V_drew)); exact HO0_4.out) gb104 (Nat.le_of_eq hg.symm)) hb); have n2_ := Aside0.mk (below_step (by repeat (first | (with_reducible first | exact HB.out | apply below_alloc | apply pw_below_drewN | apply below_drew1) | exact HB.out)) hb); have n3_ := Aside0.mk (hbox); have n4_ := Aside0.mk ((by rw [hg]; exact (below_size (by repeat (first | (with_reducible first | exact HB.out | apply below_alloc | apply pw_below_drewN | apply below_drew1) | exact HB.out))) : w.heap.size ≤ gb104)); have n5_ := Aside0.mk ((by rw [hg]; exact (below_size (by repeat (first | (with_reducible first | exact HB.out | apply below_alloc | apply pw_below_drewN | apply below_drew1) | exact HB.out))) : w.heap.size ≤ gb104)); clear HO0_3; clear HO0_4; clear HB; have HO0_3 := n0_; have HO0_4 := n1_; have HB := n2_; have BK104 := n3_; have GW104 := n4_; have GE104 := n5_; clear n0_ n1_ n2_ n3_ n4_ n5_; clear hb hbox hg; have hcz3_0 : w2.cell? ⟨gb104, 0, none⟩ = some (.int .i64 a0_0) := (blk_cell BK104.out 0).trans rfl; have hcz3_1 : w2.cell? ⟨gb104, 1, none⟩ = some (.int .i64 a0_1) := (blk_cell BK104.out 1).trans rfl; have hcz3_2 : w2.cell? ⟨gb104, 2, none⟩ = some (.string a0_2) := (blk_cell BK104.out 2).trans rfl; have hcz3_3 : w2.cell? ⟨gb104, 3, none⟩ = some (.slice A0_3 l0_3.length c0_3) := (blk_cell BK104.out 3).trans rfl; have hcz3_4 : w2.cell? ⟨gb104, 4, none⟩ = some (.slice A0_4 l0_4.length c0_4) := (blk_cell BK104.out 4).trans rfl; have hfz3_0 := blk_frozen BK104.out 0; have hfz3_1 := blk_frozen BK104.out 1; have hfz3_2 := blk_frozen BK104.out 2; have hfz3_3 := blk_frozen BK104.out 3; have hfz3_4 := blk_frozen BK104.out 4) | ((with_reducible refine gate_dst (N := 6) rfl ?_); refine Kd.N_lit k25 _ 25 ?hg (N' := 6) ?hd (xs := ([(⟨a0_0, a0_1, a0_2, l0_3, l0_4⟩ : S25)] : List (S25))) (inner := [.int .i64 a0_0, .int .i64 a0_1, .string a0_2, .slice A0_3 l0_3.length c0_3, .slice A0_4 l0_4.length c0_4]) (ok := (fun k_ => ((P0_3_ k_ ∨ P0_4_ k_) ∨ w.heap.size ≤ k_) ∧ k_ ≠ gb104)) (okp := (fun k_ => ((P0_3_ k_ ∨ P0_4_ k_) ∨ w.heap.size ≤ k_) ∧ k_ ≠ gb104)) ?hr ?hp (fun _ hk => hk) ((show ∀ k_, w2.heap.size ≤ k_ → (fun k_ => ((P0_3_ k_ ∨ P0_4_ k_) ∨ w.heap.size ≤ k_) ∧ k_ ≠ gb104) k_ from fun k_ hk => ⟨(.inr (Nat.le_trans (below_size (by repeat (first | (with_reducible first | exact HB.out | apply below_alloc | apply pw_below_drewN | apply below_drew1 | refine below_set ?_ GE104.out) | exact HB.out))) hk)), Kd.freshB (g := gb104) (o := .cells #[.int .i64 a0_0, .int .i64 a0_1, .string a0_2, .slice A0_3 l0_3.length c0_3, .slice A0_4 l0_4.length c0_4] 25 (0, 0)) (by (with_reducible repeat (first | refine blk_drewN ?_ _ | refine blk_drew ?_ | refine blk_alloc ?_ _)); exact BK104.out) k_ hk⟩) _ (Nat.le_refl _)) (Below.refl _ _) (Nat.le_refl _) (by simp) ?_; (case hd => rfl); (case hg => rfl); (case hr => first | (go_simp; done) | (go_simp; rfl)); (case hp => exact (Reps.c5 (show Kd.FK k25 _ _ (⟨a0_0, a0_1, a0_2, l0_3, l0_4⟩ : S25) [.int .i64 a0_0, .int .i64 a0_1, .string a0_2, .slice A0_3 l0_3.length c0_3, .slice A0_4 l0_4.length c0_4] from (k25_mkF _ _ (⟨a0_0, a0_1, a0_2, l0_3, l0_4⟩ : S25) (Kd.V_reads' (Kd.V_mono (ok' := (fun k_ => ((P0_3_ k_ ∨ P0_4_ k_) ∨ w.heap.size ≤ k_) ∧ k_ ≠ gb104)) (HO0_3.out) (fun k_ hk => ⟨hk.1, hk.2⟩))).2.1 (Kd.V_F (Kd.V_mono (ok' := (fun k_ => ((P0_3_ k_ ∨ P0_4_ k_) ∨ w.heap.size ≤ k_) ∧ k_ ≠ gb104)) (HO0_3.out) (fun k_ hk => ⟨hk.1, hk.2⟩))) (Kd.V_reads' (Kd.V_mono (ok' := (fun k_ => ((P0_3_ k_ ∨ P0_4_ k_) ∨ w.heap.size ≤ k_) ∧ k_ ≠ gb104)) (HO0_4.out) (fun k_ hk => ⟨hk.1, hk.2⟩))).2.1 (Kd.V_F (Kd.V_mono (ok' := (fun k_ => ((P0_3_ k_ ∨ P0_4_ k_) ∨ w.heap.size ≤ k_) ∧ k_ ≠ gb104)) (HO0_4.out) (fun k_ hk => ⟨hk.1, hk.2⟩))))) (Reps.none _ _))); intro v106 w4 ho5 hb hg_ hnew_; clear hg_ hnew_; (first | rw [← Ny105.out] at ho5 | (simp only [Int.reduceToNat] at ho5; rw [← Ny105.out] at ho5)); have n0_ := Aside0.mk (Kd.V_elder' (by (with_reducible repeat (first | apply Kd.V_alloc | apply Kd.V_drewN | apply Kd.V_drew)); exact HO0_3.out) (by first | exact Kd.N_base ho5 | exact Kd.N_base (Kd.R_N (Kd.R_bound ho5)) | exact Kd.N_base (Kd.R_N ho5)) hb); have n1_ := Aside0.mk (Kd.V_elder' (by (with_reducible repeat (first | apply Kd.V_alloc | apply Kd.V_drewN | apply Kd.V_drew)); exact HO0_4.out) (by first | exact Kd.N_base ho5 | exact Kd.N_base (Kd.R_N (Kd.R_bound ho5)) | exact Kd.N_base (Kd.R_N ho5)) hb); have n2_ := Aside0.mk (Kd.N_lower ho5 (below_size (by repeat (first | (with_reducible first | exact HB.out | apply below_alloc | apply pw_below_drewN | apply below_drew1 | refine below_set ?_ GE104.out) | exact HB.out)))); have n3_ := Aside0.mk (blk_below (g := gb104) (o := .cells #[.int .i64 a0_0, .int .i64 a0_1, .string a0_2, .slice A0_3 l0_3.length c0_3, .slice A0_4 l0_4.length c0_4] 25 (0, 0)) (by (with_reducible repeat (first | refine blk_drewN ?_ _ | refine blk_drew ?_ | refine blk_alloc ?_ _)); exact BK104.out) hb); have n4_ := Aside0.mk (below_step (by repeat (first | (with_reducible first | exact HB.out | apply below_alloc | apply pw_below_drewN | apply below_drew1 | refine below_set ?_ GE104.out) | exact HB.out)) hb); clear HO0_3; clear HO0_4; clear BK104; clear HB; have HO0_3 := n0_; have HO0_4 := n1_; have HO107 := n2_; have BK104 := n3_; have HB := n4_; clear n0_ n1_ n2_ n3_ n4_; clear hb ho5))
  go_loopg [3, 4] k (fun kq v3 v4 w' => ∃ (x3_1 : List (S25)) (x4_1 : Int), v4 = .int .i64 x4_1 ∧ Aside0 (sealringref07_All.l0 kq x3_1 x4_1 a0_0 a0_1 a0_2 l0_3 l0_4 = some r) ∧ Aside0 (kq ≤ k) ∧ Aside0 (Kd.N k25 25 w' w.heap.size (fun k_ => ((P0_3_ k_ ∨ P0_4_ k_) ∨ w.heap.size ≤ k_) ∧ k_ ≠ gb104) v3 x3_1) ∧ Aside0 (Kd.V Kd.string 9 w' w.heap.size (fun k_ => ((P0_3_ k_ ∨ P0_4_ k_) ∨ w.heap.size ≤ k_) ∧ some k_ ≠ (v3 : Value).ownBlock ∧ k_ ≠ gb104) (.slice A0_3 l0_3.length c0_3) l0_3) ∧ Aside0 (Kd.V k25 25 w' w.heap.size (fun k_ => ((P0_3_ k_ ∨ P0_4_ k_) ∨ w.heap.size ≤ k_) ∧ some k_ ≠ (v3 : Value).ownBlock ∧ k_ ≠ gb104) (.slice A0_4 l0_4.length c0_4) l0_4) ∧ Aside0 (w'.heap[gb104]? = some (.cells #[.int .i64 a0_0, .int .i64 a0_1, .string a0_2, (.slice A0_3 l0_3.length c0_3), (.slice A0_4 l0_4.length c0_4)] 25 (0, 0))) ∧ Aside0 (Below w.heap.size w w'))
  case atStart => exact ⟨(y105), (0), (by first | rfl | (simp; done) | (simp [*]; done)), (by first | with_reducible exact H' | exact H' | (subst_vars; exact H')), ⟨Nat.le_refl _⟩, ⟨by (with_reducible repeat (first | apply Kd.N_alloc | apply Kd.N_drewN | apply Kd.N_drew)); exact HO107.out⟩, ⟨by (with_reducible repeat (first | apply Kd.V_alloc | apply Kd.V_drewN | apply Kd.V_drew)); exact Kd.V_mono HO0_3.out (fun _ hk => ⟨hk.1.1, ⟨hk.2, hk.1.2⟩⟩)⟩, ⟨by (with_reducible repeat (first | apply Kd.V_alloc | apply Kd.V_drewN | apply Kd.V_drew)); exact Kd.V_mono HO0_4.out (fun _ hk => ⟨hk.1.1, ⟨hk.2, hk.1.2⟩⟩)⟩, ⟨by (with_reducible repeat (first | refine blk_drewN ?_ _ | refine blk_drew ?_ | refine blk_alloc ?_ _)); exact BK104.out⟩, ⟨by repeat (first | (with_reducible first | exact HB.out | apply below_alloc | apply pw_below_drewN | apply below_drew1 | refine below_set ?_ GE104.out) | exact HB.out)⟩⟩
  case round =>
    clear H'
    try clear c2
    try clear p2
    try clear c5
    try clear hcz3_0
    try clear hcz3_1
    try clear hcz3_2
    try clear hcz3_3
    try clear hcz3_4
    try clear hfz3_0
    try clear hfz3_1
    try clear hfz3_2
    try clear hfz3_3
    try clear hfz3_4
    obtain ⟨x3_1, x4_1, rfl, HA, HK1, HO_3, HO_105003, HO_105004, BK104, HB⟩ := hrel
    cases gk with
    | zero => exact absurd HA.out (by simp [sealringref07_All.l0])
    | succ k1 =>
      have H := HA.out
      clear HA
      simp only [sealringref07_All.l0] at H
      by_cases c6 : x4_1 < (l0_4.length : Int)
      · rw [if_pos c6] at H
        have c6b0 : decide (x4_1 < (l0_4.length : Int)) = true := decide_eq_true c6
        clear c6
        by_cases c7 : 0 ≤ x4_1
        · rw [if_pos c7] at H
          have c7b0 : decide (0 ≤ x4_1) = true := decide_eq_true c7
          clear c7
          replace H := Option.bind_eq_some_iff.mp H
          obtain ⟨t109, A80, H⟩ := H
          replace H : (if x3_1.length + t109.length < 1759218604441 then (sealringref07_All.l0 k1 (x3_1 ++ t109) (wrap64 (x4_1 + 1)) a0_0 a0_1 a0_2 l0_3 l0_4) else (none)) = some r := H
          have A8 := Aside0.mk A80
          clear A80
          by_cases c9 : x3_1.length + t109.length < 1759218604441
          · rw [if_pos c9] at H
            have LMc9 := Aside0.mk c9
            clear c9
            obtain ⟨y112, hy112⟩ : ∃ y_ : List (S25), y_ = (x3_1 ++ t109) := ⟨_, rfl⟩
            replace H : (sealringref07_All.l0 k1 y112 (wrap64 (x4_1 + 1)) a0_0 a0_1 a0_2 l0_3 l0_4) = some r := by first | (rw [hy112]; with_reducible exact H) | (have H2_ := (Option.bind_some _ _).symm.trans H; rw [hy112]; with_reducible exact H2_) | (have H2_ := (Option.bind_some _ _).symm.trans H; with_reducible exact H2_) | with_reducible exact H | (rw [hy112]; exact H) | exact H
            have Ny112 := Aside0.mk hy112
            clear hy112
            have H' := Aside0.mk H
            clear H
            have hcz10_0 : wr.cell? ⟨gb104, 0, none⟩ = some (.int .i64 a0_0) := (blk_cell BK104.out 0).trans rfl
            have hcz10_1 : wr.cell? ⟨gb104, 1, none⟩ = some (.int .i64 a0_1) := (blk_cell BK104.out 1).trans rfl
            have hcz10_2 : wr.cell? ⟨gb104, 2, none⟩ = some (.string a0_2) := (blk_cell BK104.out 2).trans rfl
            have hcz10_3 : wr.cell? ⟨gb104, 3, none⟩ = some (.slice A0_3 l0_3.length c0_3) := (blk_cell BK104.out 3).trans rfl
            have hcz10_4 : wr.cell? ⟨gb104, 4, none⟩ = some (.slice A0_4 l0_4.length c0_4) := (blk_cell BK104.out 4).trans rfl
            have hfz10_0 := blk_frozen BK104.out 0
            have hfz10_1 := blk_frozen BK104.out 1
            have hfz10_2 := blk_frozen BK104.out 2
            have hfz10_3 := blk_frozen BK104.out 3
            have hfz10_4 := blk_frozen BK104.out 4
            have p108 : 0 ≤ (x4_1 : Int) := of_decide_eq_true (by first | (with_reducible assumption) | assumption)
            have q108 : x4_1 < (l0_4.length : Int) := of_decide_eq_true (by first | (with_reducible assumption) | assumption)
            obtain ⟨ad108, A108_3, c108_3, A108_4, c108_4, e108, hx108_0, hx108_1, hx108_2, hx108_3, hx108_4, hl108_3, hi108_3, hl108_4, hi108_4⟩ := at_T25 (Kd.V_reads' HO_105004.out).2.2 x4_1 p108 q108
            cases e108
            obtain ⟨ce108, hce108, hMe108, hcc108⟩ := Kd.V_get HO_105004.out z25 x4_1 p108 (by first | exact q108 | exact of_decide_eq_true (by first | (with_reducible assumption) | assumption) | (have e_ := (Kd.V_reads' HO_105004.out).1; omega))
            obtain ⟨ua108_3, uc108_3, ua108_4, uc108_4, rfl, ul108_3, ge108_3, ul108_4, ge108_4⟩ := k25_openF hMe108
            have hv108_3 := hcc108 3 _ rfl
            rw [add_field _ _ 3 (by omega)] at hv108_3
            replace hv108_3 := Option.some.inj (hv108_3.symm.trans hx108_3)
            injection hv108_3 with hva_ hvn_ hvc_
            rw [hva_] at ge108_3
            rw [hvc_] at ul108_3
            have HL108_3 := Aside0.mk (show Kd.V Kd.string 9 _ w.heap.size _ _ ((rd_T25 l0_4 x4_1).f3) from Kd.V_mk ul108_3 ge108_3)
            clear hva_ hvn_ hvc_ ge108_3 ul108_3
            have hv108_4 := hcc108 4 _ rfl
            rw [add_field _ _ 4 (by omega)] at hv108_4
            replace hv108_4 := Option.some.inj (hv108_4.symm.trans hx108_4)
            injection hv108_4 with hva_ hvn_ hvc_
            rw [hva_] at ge108_4
            rw [hvc_] at ul108_4
            have HL108_4 := Aside0.mk (show Kd.V k25 25 _ w.heap.size _ _ ((rd_T25 l0_4 x4_1).f4) from Kd.V_mk ul108_4 ge108_4)
            clear hva_ hvn_ hvc_ ge108_4 ul108_4
            clear hcc108 hce108
            have HR108_3 := Aside0.mk hi108_3
            have HC108_3 := Aside0.mk hl108_3
            clear hi108_3 hl108_3
            have HR108_4 := Aside0.mk hi108_4
            have HC108_4 := Aside0.mk hl108_4
            clear hi108_4 hl108_4
            replace p108 := eq_true p108
            replace q108 := eq_true q108
            go_wp2_with (first | ((with_reducible refine gate_callee (f := 28) rfl ?_); refine goesL_ (some 20) rfl rfl Try.func28 (by kernel_rfl) rfl #[.agg #[.int .i64 ((rd_T25 l0_4 x4_1).f0), .int .i64 ((rd_T25 l0_4 x4_1).f1), .string ((rd_T25 l0_4 x4_1).f2), .slice A108_3 ((rd_T25 l0_4 x4_1).f3).length c108_3, .slice A108_4 ((rd_T25 l0_4 x4_1).f4).length c108_4]] rfl (by (try simp only [List.map_toArray, List.map_cons, List.map_nil]); first | done | rfl | (simp only [List.length_drop, List.length_take]; rfl)) ?_; (with_reducible refine (ih k1 (by have := HK1.out; omega) ((rd_T25 l0_4 x4_1).f0) ((rd_T25 l0_4 x4_1).f1) ((rd_T25 l0_4 x4_1).f2) (fun k_ => (((P0_3_ k_ ∨ P0_4_ k_) ∨ w.heap.size ≤ k_) ∧ (some k_ ≠ (u3 : Value).ownBlock ∧ k_ ≠ gb104))) _ _ ((rd_T25 l0_4 x4_1).f3) (fun k_ => (((P0_3_ k_ ∨ P0_4_ k_) ∨ w.heap.size ≤ k_) ∧ (some k_ ≠ (u3 : Value).ownBlock ∧ k_ ≠ gb104))) _ _ ((rd_T25 l0_4 x4_1).f4) t109 _ ?side1 ?side2 A8.out).mono ?_); (case side1 => exact HL108_3.out); (case side2 => exact HL108_4.out); rintro e w11 ⟨v110, rfl, ho0, hb⟩; refine ⟨_, rfl, ?_⟩; have n0_ := Aside0.mk (Kd.N_elder' (by (with_reducible repeat (first | apply Kd.N_alloc | apply Kd.N_drewN | apply Kd.N_drew)); exact HO_3.out) (by first | exact Kd.N_base ho0 | exact Kd.N_base (Kd.R_N (Kd.R_bound ho0)) | exact Kd.N_base (Kd.R_N ho0)) hb); have n1_ := Aside0.mk (Kd.V_elder' (by (with_reducible repeat (first | apply Kd.V_alloc | apply Kd.V_drewN | apply Kd.V_drew)); exact HO_105003.out) (by first | exact Kd.N_base ho0 | exact Kd.N_base (Kd.R_N (Kd.R_bound ho0)) | exact Kd.N_base (Kd.R_N ho0)) hb); have n2_ := Aside0.mk (Kd.V_elder' (by (with_reducible repeat (first | apply Kd.V_alloc | apply Kd.V_drewN | apply Kd.V_drew)); exact HO_105004.out) (by first | exact Kd.N_base ho0 | exact Kd.N_base (Kd.R_N (Kd.R_bound ho0)) | exact Kd.N_base (Kd.R_N ho0)) hb); have n3_ := Aside0.mk (Kd.V_elder' (by (with_reducible repeat (first | apply Kd.V_alloc | apply Kd.V_drewN | apply Kd.V_drew)); exact HL108_3.out) (by first | exact Kd.N_base ho0 | exact Kd.N_base (Kd.R_N (Kd.R_bound ho0)) | exact Kd.N_base (Kd.R_N ho0)) hb); have n4_ := Aside0.mk (Kd.V_elder' (by (with_reducible repeat (first | apply Kd.V_alloc | apply Kd.V_drewN | apply Kd.V_drew)); exact HL108_4.out) (by first | exact Kd.N_base ho0 | exact Kd.N_base (Kd.R_N (Kd.R_bound ho0)) | exact Kd.N_base (Kd.R_N ho0)) hb); have n5_ := Aside0.mk (Kd.N_lower (Kd.N_mono (ok' := fun k_ => ((P0_3_ k_ ∨ P0_4_ k_) ∨ w.heap.size ≤ k_) ∧ some k_ ≠ (u3 : Value).ownBlock ∧ k_ ≠ gb104) ho0 (fun k_ hk_ => ⟨Or.elim hk_ (fun hs_ => Or.elim hs_ (fun hs_ => hs_.1) (fun hs_ => hs_.1)) (fun hn_ => (.inr (Nat.le_trans (below_size (by repeat (first | (with_reducible first | exact HB.out | apply below_alloc | apply pw_below_drewN | apply below_drew1 | refine below_set ?_ GE104.out) | exact HB.out))) hn_))), Or.elim hk_ (fun hs_ => Or.elim hs_ (fun hs_ => hs_.2.1) (fun hs_ => hs_.2.1)) (fun hn_ => (Kd.fresh' (Kd.N_lt (by (with_reducible repeat (first | apply Kd.N_alloc | apply Kd.N_drewN | apply Kd.N_drew)); exact HO_3.out)) k_ hn_)), Or.elim hk_ (fun hs_ => Or.elim hs_ (fun hs_ => hs_.2.2) (fun hs_ => hs_.2.2)) (fun hn_ => (Kd.freshB (g := gb104) (o := .cells #[.int .i64 a0_0, .int .i64 a0_1, .string a0_2, .slice A0_3 l0_3.length c0_3, .slice (some ad108) l0_4.length c0_4] 25 (0, 0)) (by (with_reducible repeat (first | refine blk_drewN ?_ _ | refine blk_drew ?_ | refine blk_alloc ?_ _)); exact BK104.out) k_ hn_))⟩)) (below_size (by repeat (first | (with_reducible first | exact HB.out | apply below_alloc | apply pw_below_drewN | apply below_drew1 | refine below_set ?_ GE104.out) | exact HB.out)))); have n6_ := Aside0.mk (blk_below (g := gb104) (o := .cells #[.int .i64 a0_0, .int .i64 a0_1, .string a0_2, .slice A0_3 l0_3.length c0_3, .slice (some ad108) l0_4.length c0_4] 25 (0, 0)) (by (with_reducible repeat (first | refine blk_drewN ?_ _ | refine blk_drew ?_ | refine blk_alloc ?_ _)); exact BK104.out) hb); have n7_ := Aside0.mk (Kd.C_below (by repeat (first | (with_reducible exact HR108_3.out) | (with_reducible refine Kd.C_alloc ?_ _) | (with_reducible refine Kd.C_drewN ?_ _) | (with_reducible refine Kd.C_drew ?_) | exact HR108_3.out)) hb); have n8_ := Aside0.mk (Kd.C_below (by repeat (first | (with_reducible exact HR108_4.out) | (with_reducible refine Kd.C_alloc ?_ _) | (with_reducible refine Kd.C_drewN ?_ _) | (with_reducible refine Kd.C_drew ?_) | exact HR108_4.out)) hb); have n9_ := Aside0.mk (below_step (by repeat (first | (with_reducible first | exact HB.out | apply below_alloc | apply pw_below_drewN | apply below_drew1 | refine below_set ?_ GE104.out) | exact HB.out)) hb); clear HO_3; clear HO_105003; clear HO_105004; clear HL108_3; clear HL108_4; clear BK104; clear HR108_3; clear HR108_4; clear HB; have HO_3 := n0_; have HO_105003 := n1_; have HO_105004 := n2_; have HL108_3 := n3_; have HL108_4 := n4_; have HO111 := n5_; have BK104 := n6_; have HR108_3 := n7_; have HR108_4 := n8_; have HB := n9_; clear n0_ n1_ n2_ n3_ n4_ n5_ n6_ n7_ n8_ n9_; (try clear hb); (try clear hb2); (try clear hk); (try clear hi); (try clear ho0); obtain ⟨Ao13, co13, eo13⟩ := Kd.N_slice HO111.out; subst eo13) | ((with_reducible refine gate_builtin (b := .append) (xs := #[.tmp 14, .tmp 20]) rfl ?_); at_builtin; refine Kd.N_append_rows k25 (w0 := w) w.heap.size rfl (.tmp 14) (.tmp 20) 23 25 (.agg #[(.int .i64 0), (.int .i64 0), (.string ⟨#[]⟩), (.slice none 0 0), (.slice none 0 0)]) 80 rfl Try.underlying23 info25 rfl (by decide) (by omega) u3 x3_1 t109 _ _ _ (fun k_ => ((P0_3_ k_ ∨ P0_4_ k_) ∨ w.heap.size ≤ k_) ∧ k_ ≠ gb104) (fun k_ => ((fun k_ => ((P0_3_ k_ ∨ P0_4_ k_) ∨ w.heap.size ≤ k_) ∧ k_ ≠ gb104)) k_ ∧ some k_ ≠ (u3 : Value).ownBlock) rfl rfl ?aO ?aR (fun _ hk => hk) ?aF ?aB ?aS ?aL ?_; (case aR => exact (by skip; exact Kd.N_F (Kd.N_mono (ok' := (fun k_ => ((fun k_ => ((P0_3_ k_ ∨ P0_4_ k_) ∨ w.heap.size ≤ k_) ∧ k_ ≠ gb104)) k_ ∧ some k_ ≠ (u3 : Value).ownBlock)) (HO111.out) (fun k_ hk => ⟨⟨hk.1, hk.2.2⟩, hk.2.1⟩)))); (case aB => exact (by repeat (first | (with_reducible first | exact HB.out | apply below_alloc | apply pw_below_drewN | apply below_drew1 | refine below_set ?_ GE104.out) | exact HB.out))); (case aF => exact (fun k_ hk => ⟨(.inr (Nat.le_trans (below_size (by repeat (first | (with_reducible first | exact HB.out | apply below_alloc | apply pw_below_drewN | apply below_drew1 | refine below_set ?_ GE104.out) | exact HB.out))) hk)), Kd.freshB (g := gb104) (o := .cells #[.int .i64 a0_0, .int .i64 a0_1, .string a0_2, .slice A0_3 l0_3.length c0_3, .slice (some ad108) l0_4.length c0_4] 25 (0, 0)) (by (with_reducible repeat (first | refine blk_drewN ?_ _ | refine blk_drew ?_ | refine blk_alloc ?_ _)); exact BK104.out) k_ hk⟩)); (case aO => exact (by (with_reducible repeat (first | apply Kd.N_alloc | apply Kd.N_drewN | apply Kd.N_drew)); exact Kd.N_mono HO_3.out (fun _ hk => ⟨hk.1.1, hk.1.2⟩))); (case aS => exact (below_size (by repeat (first | (with_reducible first | exact HB.out | apply below_alloc | apply pw_below_drewN | apply below_drew1 | refine below_set ?_ GE104.out) | exact HB.out)))); (case aL => have := LMc9.out; omega); intro v113 w12 ho hb hg hat; rw [← Ny112.out] at ho; have n0_ := Aside0.mk (Kd.V_afterv (ok := (fun k_ => ((P0_3_ k_ ∨ P0_4_ k_) ∨ w.heap.size ≤ k_) ∧ some k_ ≠ (.slice Ao13 t109.length co13 : Value).ownBlock ∧ k_ ≠ gb104)) (by (with_reducible repeat (first | apply Kd.V_alloc | apply Kd.V_drewN | apply Kd.V_drew)); exact Kd.V_mono HO_105003.out (fun _ hk => ⟨⟨hk.1.1, ⟨hk.2, hk.1.2.2⟩⟩, hk.1.2.1⟩)) hg hat); have n1_ := Aside0.mk (Kd.V_afterv (ok := (fun k_ => ((P0_3_ k_ ∨ P0_4_ k_) ∨ w.heap.size ≤ k_) ∧ some k_ ≠ (.slice Ao13 t109.length co13 : Value).ownBlock ∧ k_ ≠ gb104)) (by (with_reducible repeat (first | apply Kd.V_alloc | apply Kd.V_drewN | apply Kd.V_drew)); exact Kd.V_mono HO_105004.out (fun _ hk => ⟨⟨hk.1.1, ⟨hk.2, hk.1.2.2⟩⟩, hk.1.2.1⟩)) hg hat); have n2_ := Aside0.mk (blk_grown (g := gb104) (o := .cells #[.int .i64 a0_0, .int .i64 a0_1, .string a0_2, .slice A0_3 l0_3.length c0_3, .slice (some ad108) l0_4.length c0_4] 25 (0, 0)) (by (with_reducible repeat (first | refine blk_drewN ?_ _ | refine blk_drew ?_ | refine blk_alloc ?_ _)); exact BK104.out) hg (Kd.N_away HO_3.out (fun _ hk => hk.1.2))); have n3_ := Aside0.mk (Kd.V_afterv (ok := (fun k_ => ((P0_3_ k_ ∨ P0_4_ k_) ∨ w.heap.size ≤ k_) ∧ some k_ ≠ (.slice Ao13 t109.length co13 : Value).ownBlock ∧ k_ ≠ gb104)) (by (with_reducible repeat (first | apply Kd.V_alloc | apply Kd.V_drewN | apply Kd.V_drew)); exact Kd.V_mono HL108_3.out (fun _ hk => ⟨⟨hk.1.1, ⟨hk.2, hk.1.2.2⟩⟩, hk.1.2.1⟩)) hg hat); have n4_ := Aside0.mk (Kd.V_afterv (ok := (fun k_ => ((P0_3_ k_ ∨ P0_4_ k_) ∨ w.heap.size ≤ k_) ∧ some k_ ≠ (.slice Ao13 t109.length co13 : Value).ownBlock ∧ k_ ≠ gb104)) (by (with_reducible repeat (first | apply Kd.V_alloc | apply Kd.V_drewN | apply Kd.V_drew)); exact Kd.V_mono HL108_4.out (fun _ hk => ⟨⟨hk.1.1, ⟨hk.2, hk.1.2.2⟩⟩, hk.1.2.1⟩)) hg hat); have n5_ := Aside0.mk (Kd.N_afterv (ok := (fun k_ => ((P0_3_ k_ ∨ P0_4_ k_) ∨ w.heap.size ≤ k_) ∧ k_ ≠ gb104)) (by (with_reducible repeat (first | apply Kd.N_alloc | apply Kd.N_drewN | apply Kd.N_drew)); exact Kd.N_mono HO111.out (fun _ hk => ⟨⟨hk.1, hk.2.2⟩, hk.2.1⟩)) hg hat); have n6_ := Aside0.mk (hb); have n7_ := Aside0.mk (ho); clear HO_105003; clear HO_105004; clear BK104; clear HL108_3; clear HL108_4; clear HO111; clear HB; clear HO_3; have HO_105003 := n0_; have HO_105004 := n1_; have BK104 := n2_; have HL108_3 := n3_; have HL108_4 := n4_; have HO111 := n5_; have HB := n6_; have HO114 := n7_; clear n0_ n1_ n2_ n3_ n4_ n5_ n6_ n7_; clear ho hb hg hat))
            go_roundg k1
            case measure => have := HK1.out; omega
            case rel => exact ⟨(y112), (wrap64 (x4_1 + 1)), (by first | rfl | (simp; done) | (simp [*]; done)), (by first | with_reducible exact H' | exact H' | (subst_vars; exact H')), ⟨by have := HK1.out; omega⟩, ⟨by (with_reducible repeat (first | apply Kd.N_alloc | apply Kd.N_drewN | apply Kd.N_drew)); exact HO114.out⟩, ⟨by (with_reducible repeat (first | apply Kd.V_alloc | apply Kd.V_drewN | apply Kd.V_drew)); exact Kd.V_mono HO_105003.out (fun _ hk => ⟨hk.1.1, ⟨hk.2, hk.1.2.2⟩⟩)⟩, ⟨by (with_reducible repeat (first | apply Kd.V_alloc | apply Kd.V_drewN | apply Kd.V_drew)); exact Kd.V_mono HO_105004.out (fun _ hk => ⟨hk.1.1, ⟨hk.2, hk.1.2.2⟩⟩)⟩, ⟨by (with_reducible repeat (first | refine blk_drewN ?_ _ | refine blk_drew ?_ | refine blk_alloc ?_ _)); exact BK104.out⟩, ⟨by repeat (first | (with_reducible first | exact HB.out | apply below_alloc | apply pw_below_drewN | apply below_drew1 | refine below_set ?_ GE104.out) | exact HB.out)⟩⟩
          · rw [if_neg c9] at H
            exact absurd H (by simp)
        · rw [if_neg c7] at H
          exact absurd H (by simp)
      · rw [if_neg c6] at H
        have c6b0 : decide (x4_1 < (l0_4.length : Int)) = false := decide_eq_false c6
        clear c6
        obtain rfl := Option.some.inj H
        have hcz14_0 : wr.cell? ⟨gb104, 0, none⟩ = some (.int .i64 a0_0) := (blk_cell BK104.out 0).trans rfl
        have hcz14_1 : wr.cell? ⟨gb104, 1, none⟩ = some (.int .i64 a0_1) := (blk_cell BK104.out 1).trans rfl
        have hcz14_2 : wr.cell? ⟨gb104, 2, none⟩ = some (.string a0_2) := (blk_cell BK104.out 2).trans rfl
        have hcz14_3 : wr.cell? ⟨gb104, 3, none⟩ = some (.slice A0_3 l0_3.length c0_3) := (blk_cell BK104.out 3).trans rfl
        have hcz14_4 : wr.cell? ⟨gb104, 4, none⟩ = some (.slice A0_4 l0_4.length c0_4) := (blk_cell BK104.out 4).trans rfl
        have hfz14_0 := blk_frozen BK104.out 0
        have hfz14_1 := blk_frozen BK104.out 1
        have hfz14_2 := blk_frozen BK104.out 2
        have hfz14_3 := blk_frozen BK104.out 3
        have hfz14_4 := blk_frozen BK104.out 4
        go_wp2
        go_ret
        exact ⟨_, by first | rfl | (simp [errW_none, errW_some] <;> rfl) | (simp [*, errW_none, errW_some] <;> rfl), by (with_reducible repeat (first | apply Kd.N_alloc | apply Kd.N_drewN | apply Kd.N_drew)); exact Kd.N_mono HO_3.out (fun _ hk => hk.1), by repeat (first | (with_reducible first | exact HB.out | apply below_alloc | apply pw_below_drewN | apply below_drew1 | refine below_set ?_ GE104.out) | exact HB.out)⟩
end Go.Proofs.Ytjdldlphfifggaa.X
end
section
namespace Go.Proofs.Ytjdldlphfifggaa.X
open Go.RowKit Go.Proofs.YtjdldlphfifggaaW.PrintWords Go.Proofs.YtjdldlphfifggaaW.PrintLast Go.Proofs.YtjdldlphfifggaaW.PrintMore
attribute [local go_sem] max2_int min2_int max_two min_two max_three min_three max_four min_four
set_option linter.unusedVariables false
set_option linter.unusedSimpArgs false
mutual
def sealringlaw07_Few.l0 : Nat → Int → List (S25) → Int → List (S25) → Int → Int → Option (Bool)
  | 0, _, _, _, _, _, _ => none
  | k + 1, x1, x5, x6, x16, x17, x18 => if x18 < x17 then (if 0 ≤ x18 then (if x18 < (x16.length : Int) then (sealringlaw07_Few.l1 k x1 x5 (wrap64 (x6 + (((rd_T25 x16 x18).f2).size : Int))) x16 x17 x18 ((rd_T25 x16 x18).f3) (((rd_T25 x16 x18).f3).length : Int) 0) else (none)) else (none)) else (if (x5.length : Int) ≤ x1 then (some (decide (x6 ≤ 3000))) else (some false))
def sealringlaw07_Few.l1 : Nat → Int → List (S25) → Int → List (S25) → Int → Int → List ByteArray → Int → Int → Option (Bool)
  | 0, _, _, _, _, _, _, _, _, _ => none
  | k + 1, x1, x5, x6, x16, x17, x18, x28, x29, x30 => if x30 < x29 then (if 0 ≤ x30 then (if x30 < (x28.length : Int) then (sealringlaw07_Few.l1 k x1 x5 (wrap64 (x6 + (wrap64 (((rdOf ByteArray.empty x28 x30).size : Int) + 1)))) x16 x17 x18 x28 x29 (wrap64 (x30 + 1))) else (none)) else (none)) else (sealringlaw07_Few.l0 k x1 x5 x6 x16 x17 (wrap64 (x18 + 1)))
end
def sealringlaw07_Few.f (k : Nat) (a0_0 : Int) (a0_1 : Int) (a0_2 : ByteArray) (l0_3 : List ByteArray) (l0_4 : List (S25)) (a1 : Int) : Option (Bool) := (sealringref07_Depth.f k a0_0 a0_1 a0_2 l0_3 l0_4).bind fun t116 => (if t116 > 80 then (some false) else ((sealringref07_All.f k a0_0 a0_1 a0_2 l0_3 l0_4).bind fun t117 => (sealringlaw07_Few.l0 k a1 t117 0 t117 (t117.length : Int) 0)))
theorem sealringlaw07_Few.mono_l : ∀ k, (∀ y0 y1 y2 y3 y4 y5, LeO (sealringlaw07_Few.l0 k y0 y1 y2 y3 y4 y5) (sealringlaw07_Few.l0 (k + 1) y0 y1 y2 y3 y4 y5)) ∧ (∀ y0 y1 y2 y3 y4 y5 y6 y7 y8, LeO (sealringlaw07_Few.l1 k y0 y1 y2 y3 y4 y5 y6 y7 y8) (sealringlaw07_Few.l1 (k + 1) y0 y1 y2 y3 y4 y5 y6 y7 y8))
  | 0 => ⟨fun _ _ _ _ _ _ r h => by simp [sealringlaw07_Few.l0] at h, fun _ _ _ _ _ _ _ _ _ r h => by simp [sealringlaw07_Few.l1] at h⟩
  | k + 1 => by
    obtain ⟨ih0, ih1⟩ := sealringlaw07_Few.mono_l k
    refine ⟨?_, ?_⟩
    · intro y0 y1 y2 y3 y4 y5
      unfold sealringlaw07_Few.l0
      repeat' first
      | (with_reducible exact ih0 _ _ _ _ _ _)
      | (with_reducible exact ih1 _ _ _ _ _ _ _ _ _)
      | (with_reducible exact sealringref07_All.mono _ _ _ _ _ _)
      | (with_reducible exact sealringref07_Depth.mono _ _ _ _ _ _)
      | (with_reducible exact LeO.refl _)
      | (with_reducible exact LeO.none _)
      | (with_reducible refine LeO.ite ?_ ?_)
      | (with_reducible refine LeO.bind ?_ (fun _ => ?_))
      | exact ih0 _ _ _ _ _ _
      | exact ih1 _ _ _ _ _ _ _ _ _
      | exact sealringref07_All.mono _ _ _ _ _ _
      | exact sealringref07_Depth.mono _ _ _ _ _ _
      | exact LeO.none _
      | refine LeO.ite ?_ ?_
      | refine LeO.bind ?_ (fun _ => ?_)
    · intro y0 y1 y2 y3 y4 y5 y6 y7 y8
      unfold sealringlaw07_Few.l1
      repeat' first
      | (with_reducible exact ih0 _ _ _ _ _ _)
      | (with_reducible exact ih1 _ _ _ _ _ _ _ _ _)
      | (with_reducible exact sealringref07_All.mono _ _ _ _ _ _)
      | (with_reducible exact sealringref07_Depth.mono _ _ _ _ _ _)
      | (with_reducible exact LeO.refl _)
      | (with_reducible exact LeO.none _)
      | (with_reducible refine LeO.ite ?_ ?_)
      | (with_reducible refine LeO.bind ?_ (fun _ => ?_))
      | exact ih0 _ _ _ _ _ _
      | exact ih1 _ _ _ _ _ _ _ _ _
      | exact sealringref07_All.mono _ _ _ _ _ _
      | exact sealringref07_Depth.mono _ _ _ _ _ _
      | exact LeO.none _
      | refine LeO.ite ?_ ?_
      | refine LeO.bind ?_ (fun _ => ?_)
theorem sealringlaw07_Few.mono : ∀ a0 a1 a2 a3 a4 a5 k, LeO (sealringlaw07_Few.f k a0 a1 a2 a3 a4 a5) (sealringlaw07_Few.f (k + 1) a0 a1 a2 a3 a4 a5) := by
  intro a0 a1 a2 a3 a4 a5 k
  obtain ⟨ih0, ih1⟩ := sealringlaw07_Few.mono_l k
  unfold sealringlaw07_Few.f
  repeat' first
      | (with_reducible exact ih0 _ _ _ _ _ _)
      | (with_reducible exact ih1 _ _ _ _ _ _ _ _ _)
      | (with_reducible exact sealringref07_All.mono _ _ _ _ _ _)
      | (with_reducible exact sealringref07_Depth.mono _ _ _ _ _ _)
      | (with_reducible exact LeO.refl _)
      | (with_reducible exact LeO.none _)
      | (with_reducible refine LeO.ite ?_ ?_)
      | (with_reducible refine LeO.bind ?_ (fun _ => ?_))
      | exact ih0 _ _ _ _ _ _
      | exact ih1 _ _ _ _ _ _ _ _ _
      | exact sealringref07_All.mono _ _ _ _ _ _
      | exact sealringref07_Depth.mono _ _ _ _ _ _
      | exact LeO.none _
      | refine LeO.ite ?_ ?_
      | refine LeO.bind ?_ (fun _ => ?_)
set_option maxHeartbeats 8000000 in
set_option maxRecDepth 100000 in
theorem sealringlaw07_Few.calls (k : Nat) (a0_0 : Int) (a0_1 : Int) (a0_2 : ByteArray) (A0_3 : Option Addr) (c0_3 : Nat) (l0_3 : List ByteArray) (A0_4 : Option Addr) (c0_4 : Nat) (l0_4 : List (S25)) (a1 : Int) (r : Bool) (w : World) (hr0_3 : Kd.C Kd.string w A0_3 l0_3.length l0_3) (hc0_3 : l0_3.length ≤ c0_3) (hr0_4 : Kd.C k25 w A0_4 l0_4.length l0_4) (hc0_4 : l0_4.length ≤ c0_4) (h : sealringlaw07_Few.f k a0_0 a0_1 a0_2 l0_3 l0_4 a1 = some r) :
    Calls Try.prog 10 #[.agg #[.int .i64 a0_0, .int .i64 a0_1, .string a0_2, .slice A0_3 l0_3.length c0_3, .slice A0_4 l0_4.length c0_4], .int .i64 a1] w fun e w' => e = .returned (.bool r) ∧ Below w.heap.size w w' := by
  have hu25 := Try.underlying25
  have HR0_3 := Aside0.mk hr0_3
  have HC0_3 := Aside0.mk hc0_3
  clear hr0_3 hc0_3
  have HR0_4 := Aside0.mk hr0_4
  have HC0_4 := Aside0.mk hc0_4
  clear hr0_4 hc0_4
  have HB := Aside0.mk (Below.refl w.heap.size w)
  have H : ((sealringref07_Depth.f k a0_0 a0_1 a0_2 l0_3 l0_4).bind fun t116 => (if t116 > 80 then (some false) else ((sealringref07_All.f k a0_0 a0_1 a0_2 l0_3 l0_4).bind fun t117 => (sealringlaw07_Few.l0 k a1 t117 0 t117 (t117.length : Int) 0)))) = some r := h
  clear h
  replace H := Option.bind_eq_some_iff.mp H
  obtain ⟨t116, A30, H⟩ := H
  replace H : (if t116 > 80 then (some false) else ((sealringref07_All.f k a0_0 a0_1 a0_2 l0_3 l0_4).bind fun t117 => (sealringlaw07_Few.l0 k a1 t117 0 t117 (t117.length : Int) 0))) = some r := H
  have A3 := Aside0.mk A30
  clear A30
  by_cases c4 : t116 > 80
  · rw [if_pos c4] at H
    have c4b0 : decide (80 < t116) = true := decide_eq_true c4
    clear c4
    obtain rfl := Option.some.inj H
    go_enter Try.func10, Try.ntmps10
    go_wp2_with (first | ((with_reducible refine gate_dst (N := 2) rfl ?_); refine box_event ?hg (N := 2) ?hd (cs := #[.int .i64 a0_0, .int .i64 a0_1, .string a0_2, .slice A0_3 l0_3.length c0_3, .slice A0_4 l0_4.length c0_4]) (t := 25) ?hr ?_; (case hd => rfl); (case hg => rfl); (case hr => first | (go_simp; done) | (go_simp; rfl)); intro gb115 hg w5 hbox hb; have n0_ := Aside0.mk (below_step (by repeat (first | (with_reducible first | exact HB.out | apply below_alloc | apply pw_below_drewN | apply below_drew1) | exact HB.out)) hb); have n1_ := Aside0.mk (hbox); have n2_ := Aside0.mk ((by rw [hg]; exact (below_size (by repeat (first | (with_reducible first | exact HB.out | apply below_alloc | apply pw_below_drewN | apply below_drew1) | exact HB.out))) : w.heap.size ≤ gb115)); have n3_ := Aside0.mk ((by rw [hg]; exact (below_size (by repeat (first | (with_reducible first | exact HB.out | apply below_alloc | apply pw_below_drewN | apply below_drew1) | exact HB.out))) : w.heap.size ≤ gb115)); clear HB; have HB := n0_; have BK115 := n1_; have GW115 := n2_; have GE115 := n3_; clear n0_ n1_ n2_ n3_; clear hb hbox hg; have hcz6_0 : w5.cell? ⟨gb115, 0, none⟩ = some (.int .i64 a0_0) := (blk_cell BK115.out 0).trans rfl; have hcz6_1 : w5.cell? ⟨gb115, 1, none⟩ = some (.int .i64 a0_1) := (blk_cell BK115.out 1).trans rfl; have hcz6_2 : w5.cell? ⟨gb115, 2, none⟩ = some (.string a0_2) := (blk_cell BK115.out 2).trans rfl; have hcz6_3 : w5.cell? ⟨gb115, 3, none⟩ = some (.slice A0_3 l0_3.length c0_3) := (blk_cell BK115.out 3).trans rfl; have hcz6_4 : w5.cell? ⟨gb115, 4, none⟩ = some (.slice A0_4 l0_4.length c0_4) := (blk_cell BK115.out 4).trans rfl; have hfz6_0 := blk_frozen BK115.out 0; have hfz6_1 := blk_frozen BK115.out 1; have hfz6_2 := blk_frozen BK115.out 2; have hfz6_3 := blk_frozen BK115.out 3; have hfz6_4 := blk_frozen BK115.out 4) | ((with_reducible refine gate_callee (f := 26) rfl ?_); refine goesL_ (some 12) rfl rfl Try.func26 (by kernel_rfl) rfl #[.agg #[.int .i64 a0_0, .int .i64 a0_1, .string a0_2, .slice A0_3 l0_3.length c0_3, .slice A0_4 l0_4.length c0_4]] rfl (by (try simp only [List.map_toArray, List.map_cons, List.map_nil]); first | done | rfl | (simp only [List.length_drop, List.length_take]; rfl)) ?_; (with_reducible refine (sealringref07_Depth.calls k a0_0 a0_1 a0_2 _ _ l0_3 _ _ l0_4 t116 _ ?side1 ?side2 ?side3 ?side4 A3.out).mono ?_); (case side1 => repeat (first | exact (Kd.C_below HR0_3.out HB.out) | (with_reducible refine Kd.C_alloc ?_ _) | (with_reducible refine Kd.C_drewN ?_ _) | (with_reducible refine Kd.C_drew ?_))); (case side2 => exact HC0_3.out); (case side3 => repeat (first | exact (Kd.C_below HR0_4.out HB.out) | (with_reducible refine Kd.C_alloc ?_ _) | (with_reducible refine Kd.C_drewN ?_ _) | (with_reducible refine Kd.C_drew ?_))); (case side4 => exact HC0_4.out); rintro e w7 ⟨rfl, hb⟩; refine ⟨_, rfl, ?_⟩; have n0_ := Aside0.mk (blk_below (g := gb115) (o := .cells #[.int .i64 a0_0, .int .i64 a0_1, .string a0_2, .slice A0_3 l0_3.length c0_3, .slice A0_4 l0_4.length c0_4] 25 (0, 0)) (by (with_reducible repeat (first | refine blk_drewN ?_ _ | refine blk_drew ?_ | refine blk_alloc ?_ _)); exact BK115.out) hb); have n1_ := Aside0.mk (below_step (by repeat (first | (with_reducible first | exact HB.out | apply below_alloc | apply pw_below_drewN | apply below_drew1 | refine below_set ?_ GE115.out) | exact HB.out)) hb); clear BK115; clear HB; have BK115 := n0_; have HB := n1_; clear n0_ n1_; (try clear hb); (try clear hb2); (try clear hk); (try clear hi)))
    go_ret
    exact ⟨by first | rfl | (simp [errW_none, errW_some] <;> rfl) | (simp [*, errW_none, errW_some] <;> rfl), by repeat (first | (with_reducible first | exact HB.out | apply below_alloc | apply pw_below_drewN | apply below_drew1 | refine below_set ?_ GE115.out) | exact HB.out)⟩
  · rw [if_neg c4] at H
    have c4b0 : decide (80 < t116) = false := decide_eq_false c4
    clear c4
    replace H := Option.bind_eq_some_iff.mp H
    obtain ⟨t117, A80, H⟩ := H
    replace H : (sealringlaw07_Few.l0 k a1 t117 0 t117 (t117.length : Int) 0) = some r := H
    have A8 := Aside0.mk A80
    clear A80
    have H' := Aside0.mk H
    clear H
    go_enter Try.func10, Try.ntmps10
    go_wp2_with (first | ((with_reducible refine gate_dst (N := 2) rfl ?_); refine box_event ?hg (N := 2) ?hd (cs := #[.int .i64 a0_0, .int .i64 a0_1, .string a0_2, .slice A0_3 l0_3.length c0_3, .slice A0_4 l0_4.length c0_4]) (t := 25) ?hr ?_; (case hd => rfl); (case hg => rfl); (case hr => first | (go_simp; done) | (go_simp; rfl)); intro gb115 hg w9 hbox hb; have n0_ := Aside0.mk (below_step (by repeat (first | (with_reducible first | exact HB.out | apply below_alloc | apply pw_below_drewN | apply below_drew1) | exact HB.out)) hb); have n1_ := Aside0.mk (hbox); have n2_ := Aside0.mk ((by rw [hg]; exact (below_size (by repeat (first | (with_reducible first | exact HB.out | apply below_alloc | apply pw_below_drewN | apply below_drew1) | exact HB.out))) : w.heap.size ≤ gb115)); have n3_ := Aside0.mk ((by rw [hg]; exact (below_size (by repeat (first | (with_reducible first | exact HB.out | apply below_alloc | apply pw_below_drewN | apply below_drew1) | exact HB.out))) : w.heap.size ≤ gb115)); clear HB; have HB := n0_; have BK115 := n1_; have GW115 := n2_; have GE115 := n3_; clear n0_ n1_ n2_ n3_; clear hb hbox hg; have hcz10_0 : w9.cell? ⟨gb115, 0, none⟩ = some (.int .i64 a0_0) := (blk_cell BK115.out 0).trans rfl; have hcz10_1 : w9.cell? ⟨gb115, 1, none⟩ = some (.int .i64 a0_1) := (blk_cell BK115.out 1).trans rfl; have hcz10_2 : w9.cell? ⟨gb115, 2, none⟩ = some (.string a0_2) := (blk_cell BK115.out 2).trans rfl; have hcz10_3 : w9.cell? ⟨gb115, 3, none⟩ = some (.slice A0_3 l0_3.length c0_3) := (blk_cell BK115.out 3).trans rfl; have hcz10_4 : w9.cell? ⟨gb115, 4, none⟩ = some (.slice A0_4 l0_4.length c0_4) := (blk_cell BK115.out 4).trans rfl; have hfz10_0 := blk_frozen BK115.out 0; have hfz10_1 := blk_frozen BK115.out 1; have hfz10_2 := blk_frozen BK115.out 2; have hfz10_3 := blk_frozen BK115.out 3; have hfz10_4 := blk_frozen BK115.out 4) | ((with_reducible refine gate_callee (f := 26) rfl ?_); refine goesL_ (some 12) rfl rfl Try.func26 (by kernel_rfl) rfl #[.agg #[.int .i64 a0_0, .int .i64 a0_1, .string a0_2, .slice A0_3 l0_3.length c0_3, .slice A0_4 l0_4.length c0_4]] rfl (by (try simp only [List.map_toArray, List.map_cons, List.map_nil]); first | done | rfl | (simp only [List.length_drop, List.length_take]; rfl)) ?_; (with_reducible refine (sealringref07_Depth.calls k a0_0 a0_1 a0_2 _ _ l0_3 _ _ l0_4 t116 _ ?side1 ?side2 ?side3 ?side4 A3.out).mono ?_); (case side1 => repeat (first | exact (Kd.C_below HR0_3.out HB.out) | (with_reducible refine Kd.C_alloc ?_ _) | (with_reducible refine Kd.C_drewN ?_ _) | (with_reducible refine Kd.C_drew ?_))); (case side2 => exact HC0_3.out); (case side3 => repeat (first | exact (Kd.C_below HR0_4.out HB.out) | (with_reducible refine Kd.C_alloc ?_ _) | (with_reducible refine Kd.C_drewN ?_ _) | (with_reducible refine Kd.C_drew ?_))); (case side4 => exact HC0_4.out); rintro e w11 ⟨rfl, hb⟩; refine ⟨_, rfl, ?_⟩; have n0_ := Aside0.mk (blk_below (g := gb115) (o := .cells #[.int .i64 a0_0, .int .i64 a0_1, .string a0_2, .slice A0_3 l0_3.length c0_3, .slice A0_4 l0_4.length c0_4] 25 (0, 0)) (by (with_reducible repeat (first | refine blk_drewN ?_ _ | refine blk_drew ?_ | refine blk_alloc ?_ _)); exact BK115.out) hb); have n1_ := Aside0.mk (below_step (by repeat (first | (with_reducible first | exact HB.out | apply below_alloc | apply pw_below_drewN | apply below_drew1 | refine below_set ?_ GE115.out) | exact HB.out)) hb); clear BK115; clear HB; have BK115 := n0_; have HB := n1_; clear n0_ n1_; (try clear hb); (try clear hb2); (try clear hk); (try clear hi); have hcz12_0 : w11.cell? ⟨gb115, 0, none⟩ = some (.int .i64 a0_0) := (blk_cell BK115.out 0).trans rfl; have hcz12_1 : w11.cell? ⟨gb115, 1, none⟩ = some (.int .i64 a0_1) := (blk_cell BK115.out 1).trans rfl; have hcz12_2 : w11.cell? ⟨gb115, 2, none⟩ = some (.string a0_2) := (blk_cell BK115.out 2).trans rfl; have hcz12_3 : w11.cell? ⟨gb115, 3, none⟩ = some (.slice A0_3 l0_3.length c0_3) := (blk_cell BK115.out 3).trans rfl; have hcz12_4 : w11.cell? ⟨gb115, 4, none⟩ = some (.slice A0_4 l0_4.length c0_4) := (blk_cell BK115.out 4).trans rfl; have hfz12_0 := blk_frozen BK115.out 0; have hfz12_1 := blk_frozen BK115.out 1; have hfz12_2 := blk_frozen BK115.out 2; have hfz12_3 := blk_frozen BK115.out 3; have hfz12_4 := blk_frozen BK115.out 4) | ((with_reducible refine gate_callee (f := 28) rfl ?_); refine goesL_ (some 15) rfl rfl Try.func28 (by kernel_rfl) rfl #[.agg #[.int .i64 a0_0, .int .i64 a0_1, .string a0_2, .slice A0_3 l0_3.length c0_3, .slice A0_4 l0_4.length c0_4]] rfl (by (try simp only [List.map_toArray, List.map_cons, List.map_nil]); first | done | rfl | (simp only [List.length_drop, List.length_take]; rfl)) ?_; (with_reducible refine (sealringref07_All.calls k a0_0 a0_1 a0_2 (fun k_ => k_ < w.heap.size) _ _ l0_3 (fun k_ => k_ < w.heap.size) _ _ l0_4 t117 _ ?side1 ?side2 A8.out).mono ?_); (case side1 => exact Kd.V_mk HC0_3.out (Kd.F_below (Kd.C_F Kd.heap_string HR0_3.out) (by repeat (first | (with_reducible first | exact HB.out | apply below_alloc | apply pw_below_drewN | apply below_drew1 | refine below_set ?_ GE115.out) | exact HB.out)))); (case side2 => exact Kd.V_mk HC0_4.out (Kd.F_below (Kd.C_F k25_heap HR0_4.out) (by repeat (first | (with_reducible first | exact HB.out | apply below_alloc | apply pw_below_drewN | apply below_drew1 | refine below_set ?_ GE115.out) | exact HB.out)))); rintro e w13 ⟨v118, rfl, ho0, hb⟩; refine ⟨_, rfl, ?_⟩; have n0_ := Aside0.mk (Kd.N_lower (Kd.N_mono (ok' := fun k_ => k_ ≠ gb115) ho0 (fun k_ hk_ => Or.elim hk_ (fun hs_ => Or.elim hs_ (fun hs_ => fun e_ => Nat.not_le.2 hs_ (by rw [e_]; exact GW115.out)) (fun hs_ => fun e_ => Nat.not_le.2 hs_ (by rw [e_]; exact GW115.out))) (fun hn_ => (Kd.freshB (g := gb115) (o := .cells #[.int .i64 a0_0, .int .i64 a0_1, .string a0_2, .slice A0_3 l0_3.length c0_3, .slice A0_4 l0_4.length c0_4] 25 (0, 0)) (by (with_reducible repeat (first | refine blk_drewN ?_ _ | refine blk_drew ?_ | refine blk_alloc ?_ _)); exact BK115.out) k_ hn_)))) (below_size (by repeat (first | (with_reducible first | exact HB.out | apply below_alloc | apply pw_below_drewN | apply below_drew1 | refine below_set ?_ GE115.out) | exact HB.out)))); have n1_ := Aside0.mk (blk_below (g := gb115) (o := .cells #[.int .i64 a0_0, .int .i64 a0_1, .string a0_2, .slice A0_3 l0_3.length c0_3, .slice A0_4 l0_4.length c0_4] 25 (0, 0)) (by (with_reducible repeat (first | refine blk_drewN ?_ _ | refine blk_drew ?_ | refine blk_alloc ?_ _)); exact BK115.out) hb); have n2_ := Aside0.mk (below_step (by repeat (first | (with_reducible first | exact HB.out | apply below_alloc | apply pw_below_drewN | apply below_drew1 | refine below_set ?_ GE115.out) | exact HB.out)) hb); clear BK115; clear HB; have HO119 := n0_; have BK115 := n1_; have HB := n2_; clear n0_ n1_ n2_; (try clear hb); (try clear hb2); (try clear hk); (try clear hi); (try clear ho0); obtain ⟨Ao14, co14, eo14⟩ := Kd.N_slice HO119.out; subst eo14))
    go_loopg [6, 18] k (fun kq v6 v18 w' => ∃ (x6_1 : Int) (x18_1 : Int), v6 = .int .i64 x6_1 ∧ v18 = .int .i64 x18_1 ∧ Aside0 (sealringlaw07_Few.l0 kq a1 t117 x6_1 t117 (t117.length : Int) x18_1 = some r) ∧ Aside0 (kq ≤ k) ∧ Aside0 (Kd.N k25 25 w' w.heap.size (fun k_ => k_ ≠ gb115) (.slice Ao14 t117.length co14) t117) ∧ Aside0 (Kd.N k25 25 w' w.heap.size (fun k_ => k_ ≠ gb115) (.slice Ao14 t117.length co14) t117) ∧ Aside0 (w'.heap[gb115]? = some (.cells #[.int .i64 a0_0, .int .i64 a0_1, .string a0_2, (.slice A0_3 l0_3.length c0_3), (.slice A0_4 l0_4.length c0_4)] 25 (0, 0))) ∧ Aside0 (Below w.heap.size w w'))
    case atStart => exact ⟨(0), (0), (by first | rfl | (simp; done) | (simp [*]; done)), (by first | rfl | (simp; done) | (simp [*]; done)), (by first | with_reducible exact H' | exact H' | (subst_vars; exact H')), ⟨Nat.le_refl _⟩, ⟨by (with_reducible repeat (first | apply Kd.N_alloc | apply Kd.N_drewN | apply Kd.N_drew)); exact HO119.out⟩, ⟨by (with_reducible repeat (first | apply Kd.N_alloc | apply Kd.N_drewN | apply Kd.N_drew)); exact HO119.out⟩, ⟨by (with_reducible repeat (first | refine blk_drewN ?_ _ | refine blk_drew ?_ | refine blk_alloc ?_ _)); exact BK115.out⟩, ⟨by repeat (first | (with_reducible first | exact HB.out | apply below_alloc | apply pw_below_drewN | apply below_drew1 | refine below_set ?_ GE115.out) | exact HB.out)⟩⟩
    case round =>
      clear H'
      try clear c1
      try clear c2
      try clear p2
      try clear c4
      try clear c4b0
      try clear c10
      try clear hcz10_0
      try clear hcz10_1
      try clear hcz10_2
      try clear hcz10_3
      try clear hcz10_4
      try clear hcz12_0
      try clear hcz12_1
      try clear hcz12_2
      try clear hcz12_3
      try clear hcz12_4
      try clear hcz6_0
      try clear hcz6_1
      try clear hcz6_2
      try clear hcz6_3
      try clear hcz6_4
      try clear hfz10_0
      try clear hfz10_1
      try clear hfz10_2
      try clear hfz10_3
      try clear hfz10_4
      try clear hfz12_0
      try clear hfz12_1
      try clear hfz12_2
      try clear hfz12_3
      try clear hfz12_4
      try clear hfz6_0
      try clear hfz6_1
      try clear hfz6_2
      try clear hfz6_3
      try clear hfz6_4
      obtain ⟨x6_1, x18_1, rfl, rfl, HA, HK1, HO_5, HO_16, BK115, HB⟩ := hrel
      cases gk with
      | zero => exact absurd HA.out (by simp [sealringlaw07_Few.l0])
      | succ k1 =>
        have H := HA.out
        clear HA
        simp only [sealringlaw07_Few.l0] at H
        by_cases c15 : x18_1 < (t117.length : Int)
        · rw [if_pos c15] at H
          have c15b0 : decide (x18_1 < (t117.length : Int)) = true := decide_eq_true c15
          clear c15
          by_cases c16 : 0 ≤ x18_1
          · rw [if_pos c16] at H
            have c16b0 : decide (0 ≤ x18_1) = true := decide_eq_true c16
            clear c16
            by_cases c17 : x18_1 < (t117.length : Int)
            · rw [if_pos c17] at H
              have c17b0 : decide (x18_1 < (t117.length : Int)) = true := decide_eq_true c17
              clear c17
              have H' := Aside0.mk H
              clear H
              have p120 : 0 ≤ (x18_1 : Int) := of_decide_eq_true (by first | (with_reducible assumption) | assumption)
              have q120 : x18_1 < (t117.length : Int) := of_decide_eq_true (by first | (with_reducible assumption) | assumption)
              obtain ⟨ad120, A120_3, c120_3, A120_4, c120_4, e120, hx120_0, hx120_1, hx120_2, hx120_3, hx120_4, hl120_3, hi120_3, hl120_4, hi120_4⟩ := at_T25 (Kd.N_reads' HO_16.out).2.2 x18_1 p120 q120
              cases e120
              obtain ⟨ce120, hce120, hMe120, hcc120⟩ := Kd.N_get HO_16.out z25 x18_1 p120 (by first | exact q120 | exact of_decide_eq_true (by first | (with_reducible assumption) | assumption) | (have e_ := (Kd.N_reads' HO_16.out).1; omega))
              obtain ⟨ua120_3, uc120_3, ua120_4, uc120_4, rfl, ul120_3, ge120_3, ul120_4, ge120_4⟩ := k25_openF hMe120
              have hv120_3 := hcc120 3 _ rfl
              rw [add_field _ _ 3 (by omega)] at hv120_3
              replace hv120_3 := Option.some.inj (hv120_3.symm.trans hx120_3)
              injection hv120_3 with hva_ hvn_ hvc_
              rw [hva_] at ge120_3
              rw [hvc_] at ul120_3
              have HL120_3 := Aside0.mk (show Kd.V Kd.string 9 _ w.heap.size _ _ ((rd_T25 t117 x18_1).f3) from Kd.V_mk ul120_3 ge120_3)
              clear hva_ hvn_ hvc_ ge120_3 ul120_3
              have hv120_4 := hcc120 4 _ rfl
              rw [add_field _ _ 4 (by omega)] at hv120_4
              replace hv120_4 := Option.some.inj (hv120_4.symm.trans hx120_4)
              injection hv120_4 with hva_ hvn_ hvc_
              rw [hva_] at ge120_4
              rw [hvc_] at ul120_4
              have HL120_4 := Aside0.mk (show Kd.V k25 25 _ w.heap.size _ _ ((rd_T25 t117 x18_1).f4) from Kd.V_mk ul120_4 ge120_4)
              clear hva_ hvn_ hvc_ ge120_4 ul120_4
              clear hcc120 hce120
              have HR120_3 := Aside0.mk hi120_3
              have HC120_3 := Aside0.mk hl120_3
              clear hi120_3 hl120_3
              have HR120_4 := Aside0.mk hi120_4
              have HC120_4 := Aside0.mk hl120_4
              clear hi120_4 hl120_4
              replace p120 := eq_true p120
              replace q120 := eq_true q120
              go_wp2_with (first | ((with_reducible refine gate_dst (N := 8) rfl ?_); refine box_event ?hg (N := 8) ?hd (cs := #[.int .i64 0, .int .i64 0, .string (⟨#[]⟩ : ByteArray), .slice none 0 0, .slice none 0 0]) (t := 25) ?hr ?_; (case hd => rfl); (case hg => rfl); (case hr => first | (go_simp; done) | (go_simp; rfl)); intro gb121 hg w18 hbox hb; have n0_ := Aside0.mk (Kd.N_below (Kd.N_elderB (by (with_reducible repeat (first | apply Kd.N_alloc | apply Kd.N_drewN | apply Kd.N_drew)); exact HO_5.out) gb121 (Nat.le_of_eq hg.symm)) hb); have n1_ := Aside0.mk (Kd.N_below (Kd.N_elderB (by (with_reducible repeat (first | apply Kd.N_alloc | apply Kd.N_drewN | apply Kd.N_drew)); exact HO_16.out) gb121 (Nat.le_of_eq hg.symm)) hb); have n2_ := Aside0.mk (Kd.V_below (Kd.V_elderB (by (with_reducible repeat (first | apply Kd.V_alloc | apply Kd.V_drewN | apply Kd.V_drew)); exact HL120_3.out) gb121 (Nat.le_of_eq hg.symm)) hb); have n3_ := Aside0.mk (Kd.V_below (Kd.V_elderB (by (with_reducible repeat (first | apply Kd.V_alloc | apply Kd.V_drewN | apply Kd.V_drew)); exact HL120_4.out) gb121 (Nat.le_of_eq hg.symm)) hb); have n4_ := Aside0.mk (blk_below (g := gb115) (o := .cells #[.int .i64 a0_0, .int .i64 a0_1, .string a0_2, .slice A0_3 l0_3.length c0_3, .slice A0_4 l0_4.length c0_4] 25 (0, 0)) (by (with_reducible repeat (first | refine blk_drewN ?_ _ | refine blk_drew ?_ | refine blk_alloc ?_ _)); exact BK115.out) hb); have n5_ := Aside0.mk (Kd.C_below (by repeat (first | (with_reducible exact HR120_3.out) | (with_reducible refine Kd.C_alloc ?_ _) | (with_reducible refine Kd.C_drewN ?_ _) | (with_reducible refine Kd.C_drew ?_) | exact HR120_3.out)) hb); have n6_ := Aside0.mk (Kd.C_below (by repeat (first | (with_reducible exact HR120_4.out) | (with_reducible refine Kd.C_alloc ?_ _) | (with_reducible refine Kd.C_drewN ?_ _) | (with_reducible refine Kd.C_drew ?_) | exact HR120_4.out)) hb); have n7_ := Aside0.mk (below_step (by repeat (first | (with_reducible first | exact HB.out | apply below_alloc | apply pw_below_drewN | apply below_drew1 | refine below_set ?_ GE115.out) | exact HB.out)) hb); have n8_ := Aside0.mk (hbox); have n9_ := Aside0.mk ((by rw [hg]; exact (below_size (by repeat (first | (with_reducible first | exact HB.out | apply below_alloc | apply pw_below_drewN | apply below_drew1 | refine below_set ?_ GE115.out) | exact HB.out))) : w.heap.size ≤ gb121)); have n10_ := Aside0.mk ((by rw [hg]; exact (below_size (by repeat (first | (with_reducible first | exact HB.out | apply below_alloc | apply pw_below_drewN | apply below_drew1 | refine below_set ?_ GE115.out) | exact HB.out))) : w.heap.size ≤ gb121)); have n11_ := Aside0.mk ((by rw [hg]; exact Nat.ne_of_lt (blk_lt (g := gb115) (o := .cells #[.int .i64 a0_0, .int .i64 a0_1, .string a0_2, .slice A0_3 l0_3.length c0_3, .slice A0_4 l0_4.length c0_4] 25 (0, 0)) (by (with_reducible repeat (first | refine blk_drewN ?_ _ | refine blk_drew ?_ | refine blk_alloc ?_ _)); exact BK115.out)) : gb115 ≠ gb121)); have n12_ := Aside0.mk ((by rw [hg]; exact Nat.ne_of_gt (blk_lt (g := gb115) (o := .cells #[.int .i64 a0_0, .int .i64 a0_1, .string a0_2, .slice A0_3 l0_3.length c0_3, .slice A0_4 l0_4.length c0_4] 25 (0, 0)) (by (with_reducible repeat (first | refine blk_drewN ?_ _ | refine blk_drew ?_ | refine blk_alloc ?_ _)); exact BK115.out)) : gb121 ≠ gb115)); clear HO_5; clear HO_16; clear HL120_3; clear HL120_4; clear BK115; clear HR120_3; clear HR120_4; clear HB; have HO_5 := n0_; have HO_16 := n1_; have HL120_3 := n2_; have HL120_4 := n3_; have BK115 := n4_; have HR120_3 := n5_; have HR120_4 := n6_; have HB := n7_; have BK121 := n8_; have GW121 := n9_; have GE121 := n10_; have NB115_121 := n11_; have NB121_115 := n12_; clear n0_ n1_ n2_ n3_ n4_ n5_ n6_ n7_ n8_ n9_ n10_ n11_ n12_; clear hb hbox hg; have hnb19 := NB121_115.out; have hnc19 := NB115_121.out; have hcz20_0 : w18.cell? ⟨gb121, 0, none⟩ = some (.int .i64 0) := (blk_cell BK121.out 0).trans rfl; have hcz20_1 : w18.cell? ⟨gb121, 1, none⟩ = some (.int .i64 0) := (blk_cell BK121.out 1).trans rfl; have hcz20_2 : w18.cell? ⟨gb121, 2, none⟩ = some (.string (⟨#[]⟩ : ByteArray)) := (blk_cell BK121.out 2).trans rfl; have hcz20_3 : w18.cell? ⟨gb121, 3, none⟩ = some (.slice none 0 0) := (blk_cell BK121.out 3).trans rfl; have hcz20_4 : w18.cell? ⟨gb121, 4, none⟩ = some (.slice none 0 0) := (blk_cell BK121.out 4).trans rfl; have hfz20_0 := blk_frozen BK121.out 0; have hfz20_1 := blk_frozen BK121.out 1; have hfz20_2 := blk_frozen BK121.out 2; have hfz20_3 := blk_frozen BK121.out 3; have hfz20_4 := blk_frozen BK121.out 4))
              go_loopg [6, 30] k1 (fun kq v6 v30 w' => ∃ (x6_2 : Int) (x30_2 : Int), v6 = .int .i64 x6_2 ∧ v30 = .int .i64 x30_2 ∧ Aside0 (sealringlaw07_Few.l1 kq a1 t117 x6_2 t117 (t117.length : Int) x18_1 ((rd_T25 t117 x18_1).f3) (((rd_T25 t117 x18_1).f3).length : Int) x30_2 = some r) ∧ Aside0 (kq ≤ k1) ∧ Aside0 (Kd.N k25 25 w' w.heap.size (fun k_ => k_ ≠ gb115 ∧ k_ ≠ gb121) (.slice (some ad120) t117.length co14) t117) ∧ Aside0 (Kd.N k25 25 w' w.heap.size (fun k_ => k_ ≠ gb115 ∧ k_ ≠ gb121) (.slice (some ad120) t117.length co14) t117) ∧ Aside0 (w'.heap[gb115]? = some (.cells #[.int .i64 a0_0, .int .i64 a0_1, .string a0_2, (.slice A0_3 l0_3.length c0_3), (.slice A0_4 l0_4.length c0_4)] 25 (0, 0))) ∧ Aside0 (w'.heap[gb121]? = some (.cells #[.int .i64 ((rd_T25 t117 x18_1).f0), .int .i64 ((rd_T25 t117 x18_1).f1), .string ((rd_T25 t117 x18_1).f2), (.slice A120_3 ((rd_T25 t117 x18_1).f3).length c120_3), (.slice A120_4 ((rd_T25 t117 x18_1).f4).length c120_4)] 25 (0, 0))) ∧ Aside0 (Kd.C Kd.string w' A120_3 ((rd_T25 t117 x18_1).f3).length ((rd_T25 t117 x18_1).f3)) ∧ Aside0 (Kd.C k25 w' A120_4 ((rd_T25 t117 x18_1).f4).length ((rd_T25 t117 x18_1).f4)) ∧ Aside0 (Below w.heap.size w w'))
              case atStart => exact ⟨(wrap64 (x6_1 + (((rd_T25 t117 x18_1).f2).size : Int))), (0), (by first | rfl | (simp; done) | (simp [*]; done)), (by first | rfl | (simp; done) | (simp [*]; done)), (by first | with_reducible exact H' | exact H' | (subst_vars; exact H')), ⟨Nat.le_refl _⟩, ⟨by (with_reducible repeat (first | apply Kd.N_alloc | apply Kd.N_drewN | apply Kd.N_drew)); exact Kd.N_mono (Kd.N_far (p := ⟨gb121, 4, none⟩) (Kd.N_far (p := ⟨gb121, 3, none⟩) (Kd.N_far (p := ⟨gb121, 2, none⟩) (Kd.N_far (p := ⟨gb121, 1, none⟩) (Kd.N_far (p := ⟨gb121, 0, none⟩) (Kd.N_mono HO_5.out (fun k_ hk => (⟨hk, hk.2⟩ : _ ∧ k_ ≠ gb121))) (fun _ hk => hk.2) (.int .i64 ((rd_T25 t117 x18_1).f0))) (fun _ hk => hk.2) (.int .i64 ((rd_T25 t117 x18_1).f1))) (fun _ hk => hk.2) (.string ((rd_T25 t117 x18_1).f2))) (fun _ hk => hk.2) (.slice A120_3 ((rd_T25 t117 x18_1).f3).length c120_3)) (fun _ hk => hk.2) (.slice A120_4 ((rd_T25 t117 x18_1).f4).length c120_4)) (fun _ hk => ⟨hk.1.1, hk.1.2⟩)⟩, ⟨by (with_reducible repeat (first | apply Kd.N_alloc | apply Kd.N_drewN | apply Kd.N_drew)); exact Kd.N_mono (Kd.N_far (p := ⟨gb121, 4, none⟩) (Kd.N_far (p := ⟨gb121, 3, none⟩) (Kd.N_far (p := ⟨gb121, 2, none⟩) (Kd.N_far (p := ⟨gb121, 1, none⟩) (Kd.N_far (p := ⟨gb121, 0, none⟩) (Kd.N_mono HO_16.out (fun k_ hk => (⟨hk, hk.2⟩ : _ ∧ k_ ≠ gb121))) (fun _ hk => hk.2) (.int .i64 ((rd_T25 t117 x18_1).f0))) (fun _ hk => hk.2) (.int .i64 ((rd_T25 t117 x18_1).f1))) (fun _ hk => hk.2) (.string ((rd_T25 t117 x18_1).f2))) (fun _ hk => hk.2) (.slice A120_3 ((rd_T25 t117 x18_1).f3).length c120_3)) (fun _ hk => hk.2) (.slice A120_4 ((rd_T25 t117 x18_1).f4).length c120_4)) (fun _ hk => ⟨hk.1.1, hk.1.2⟩)⟩, ⟨by (with_reducible repeat (first | refine blk_drewN ?_ _ | refine blk_drew ?_ | refine blk_alloc ?_ _)); refine blk_far ?_ NB115_121.out _; (with_reducible repeat (first | refine blk_drewN ?_ _ | refine blk_drew ?_ | refine blk_alloc ?_ _)); refine blk_far ?_ NB115_121.out _; (with_reducible repeat (first | refine blk_drewN ?_ _ | refine blk_drew ?_ | refine blk_alloc ?_ _)); refine blk_far ?_ NB115_121.out _; (with_reducible repeat (first | refine blk_drewN ?_ _ | refine blk_drew ?_ | refine blk_alloc ?_ _)); refine blk_far ?_ NB115_121.out _; (with_reducible repeat (first | refine blk_drewN ?_ _ | refine blk_drew ?_ | refine blk_alloc ?_ _)); refine blk_far ?_ NB115_121.out _; (with_reducible repeat (first | refine blk_drewN ?_ _ | refine blk_drew ?_ | refine blk_alloc ?_ _)); exact BK115.out⟩, ⟨by (with_reducible repeat (first | refine blk_drewN ?_ _ | refine blk_drew ?_ | refine blk_alloc ?_ _)); refine blk_put (cs := #[.int .i64 ((rd_T25 t117 x18_1).f0), .int .i64 ((rd_T25 t117 x18_1).f1), .string ((rd_T25 t117 x18_1).f2), .slice A120_3 ((rd_T25 t117 x18_1).f3).length c120_3, .slice none 0 0]) ?_ 4 _ rfl; (with_reducible repeat (first | refine blk_drewN ?_ _ | refine blk_drew ?_ | refine blk_alloc ?_ _)); refine blk_put (cs := #[.int .i64 ((rd_T25 t117 x18_1).f0), .int .i64 ((rd_T25 t117 x18_1).f1), .string ((rd_T25 t117 x18_1).f2), .slice none 0 0, .slice none 0 0]) ?_ 3 _ rfl; (with_reducible repeat (first | refine blk_drewN ?_ _ | refine blk_drew ?_ | refine blk_alloc ?_ _)); refine blk_put (cs := #[.int .i64 ((rd_T25 t117 x18_1).f0), .int .i64 ((rd_T25 t117 x18_1).f1), .string (⟨#[]⟩ : ByteArray), .slice none 0 0, .slice none 0 0]) ?_ 2 _ rfl; (with_reducible repeat (first | refine blk_drewN ?_ _ | refine blk_drew ?_ | refine blk_alloc ?_ _)); refine blk_put (cs := #[.int .i64 ((rd_T25 t117 x18_1).f0), .int .i64 0, .string (⟨#[]⟩ : ByteArray), .slice none 0 0, .slice none 0 0]) ?_ 1 _ rfl; (with_reducible repeat (first | refine blk_drewN ?_ _ | refine blk_drew ?_ | refine blk_alloc ?_ _)); refine blk_put (cs := #[.int .i64 0, .int .i64 0, .string (⟨#[]⟩ : ByteArray), .slice none 0 0, .slice none 0 0]) ?_ 0 _ rfl; (with_reducible repeat (first | refine blk_drewN ?_ _ | refine blk_drew ?_ | refine blk_alloc ?_ _)); exact BK121.out⟩, ⟨(Kd.V_reads' (by (with_reducible repeat (first | apply Kd.V_alloc | apply Kd.V_drewN | apply Kd.V_drew)); exact (Kd.V_mono (Kd.V_far (p := ⟨gb121, 4, none⟩) (Kd.V_far (p := ⟨gb121, 3, none⟩) (Kd.V_far (p := ⟨gb121, 2, none⟩) (Kd.V_far (p := ⟨gb121, 1, none⟩) (Kd.V_far (p := ⟨gb121, 0, none⟩) (Kd.V_mono HL120_3.out (fun k_ hk => (⟨hk, hk.2⟩ : _ ∧ k_ ≠ gb121))) (fun _ hk => hk.2) (.int .i64 ((rd_T25 t117 x18_1).f0))) (fun _ hk => hk.2) (.int .i64 ((rd_T25 t117 x18_1).f1))) (fun _ hk => hk.2) (.string ((rd_T25 t117 x18_1).f2))) (fun _ hk => hk.2) (.slice A120_3 ((rd_T25 t117 x18_1).f3).length c120_3)) (fun _ hk => hk.2) (.slice A120_4 ((rd_T25 t117 x18_1).f4).length c120_4)) (fun _ h_ => h_.1)))).2.2⟩, ⟨(Kd.V_reads' (by (with_reducible repeat (first | apply Kd.V_alloc | apply Kd.V_drewN | apply Kd.V_drew)); exact (Kd.V_mono (Kd.V_far (p := ⟨gb121, 4, none⟩) (Kd.V_far (p := ⟨gb121, 3, none⟩) (Kd.V_far (p := ⟨gb121, 2, none⟩) (Kd.V_far (p := ⟨gb121, 1, none⟩) (Kd.V_far (p := ⟨gb121, 0, none⟩) (Kd.V_mono HL120_4.out (fun k_ hk => (⟨hk, hk.2⟩ : _ ∧ k_ ≠ gb121))) (fun _ hk => hk.2) (.int .i64 ((rd_T25 t117 x18_1).f0))) (fun _ hk => hk.2) (.int .i64 ((rd_T25 t117 x18_1).f1))) (fun _ hk => hk.2) (.string ((rd_T25 t117 x18_1).f2))) (fun _ hk => hk.2) (.slice A120_3 ((rd_T25 t117 x18_1).f3).length c120_3)) (fun _ hk => hk.2) (.slice A120_4 ((rd_T25 t117 x18_1).f4).length c120_4)) (fun _ h_ => h_.1)))).2.2⟩, ⟨by repeat (first | (with_reducible first | exact HB.out | apply below_alloc | apply pw_below_drewN | apply below_drew1 | refine below_set ?_ GE115.out | refine below_set ?_ GE121.out) | exact HB.out)⟩⟩
              case round =>
                clear H'
                try clear c1
                try clear p1
                try clear q1
                try clear hx1
                try clear c2
                try clear p2
                try clear c4
                try clear c4b0
                try clear p6
                try clear c10
                try clear c12
                try clear p12
                try clear q12
                try clear hx12
                try clear c15
                try clear c15b0
                try clear c16
                try clear c16b0
                try clear c17
                try clear c17b0
                try clear c19
                try clear hcz10_0
                try clear hcz10_1
                try clear hcz10_2
                try clear hcz10_3
                try clear hcz10_4
                try clear hcz12_0
                try clear hcz12_1
                try clear hcz12_2
                try clear hcz12_3
                try clear hcz12_4
                try clear hcz20_0
                try clear hcz20_1
                try clear hcz20_2
                try clear hcz20_3
                try clear hcz20_4
                try clear hcz6_0
                try clear hcz6_1
                try clear hcz6_2
                try clear hcz6_3
                try clear hcz6_4
                try clear hfz10_0
                try clear hfz10_1
                try clear hfz10_2
                try clear hfz10_3
                try clear hfz10_4
                try clear hfz12_0
                try clear hfz12_1
                try clear hfz12_2
                try clear hfz12_3
                try clear hfz12_4
                try clear hfz20_0
                try clear hfz20_1
                try clear hfz20_2
                try clear hfz20_3
                try clear hfz20_4
                try clear hfz6_0
                try clear hfz6_1
                try clear hfz6_2
                try clear hfz6_3
                try clear hfz6_4
                try clear hx120_0
                try clear hx120_1
                try clear hx120_2
                try clear hx120_3
                try clear hx120_4
                try clear p120
                try clear p2
                try clear q120
                obtain ⟨x6_2, x30_2, rfl, rfl, HA, HK2, HO_5, HO_16, BK115, BK121, HR120_3, HR120_4, HB⟩ := hrel
                cases gk with
                | zero => exact absurd HA.out (by simp [sealringlaw07_Few.l1])
                | succ k2 =>
                  have H := HA.out
                  clear HA
                  simp only [sealringlaw07_Few.l1] at H
                  by_cases c21 : x30_2 < (((rd_T25 t117 x18_1).f3).length : Int)
                  · rw [if_pos c21] at H
                    have c21b0 : decide (x30_2 < (((rd_T25 t117 x18_1).f3).length : Int)) = true := decide_eq_true c21
                    clear c21
                    by_cases c22 : 0 ≤ x30_2
                    · rw [if_pos c22] at H
                      have c22b0 : decide (0 ≤ x30_2) = true := decide_eq_true c22
                      clear c22
                      by_cases c23 : x30_2 < (((rd_T25 t117 x18_1).f3).length : Int)
                      · rw [if_pos c23] at H
                        have c23b0 : decide (x30_2 < (((rd_T25 t117 x18_1).f3).length : Int)) = true := decide_eq_true c23
                        clear c23
                        have H' := Aside0.mk H
                        clear H
                        have p122 : 0 ≤ (x30_2 : Int) := of_decide_eq_true (by first | (with_reducible assumption) | assumption)
                        have q122 : x30_2 < (((rd_T25 t117 x18_1).f3).length : Int) := of_decide_eq_true (by first | (with_reducible assumption) | assumption)
                        obtain ⟨ad122, e122, hx122_0⟩ := Kd.at_string HR120_3.out x30_2 p122 q122
                        cases e122
                        (try replace hx122_0 := (HB.out.cell (World.block_lt_of_cell? w _ hx122_0)).trans hx122_0)
                        replace p122 := eq_true p122
                        replace q122 := eq_true q122
                        go_wp2
                        go_roundg k2
                        case measure => have := HK1.out; have := HK2.out; omega
                        case rel => exact ⟨(wrap64 (x6_2 + (wrap64 (((rdOf ByteArray.empty ((rd_T25 t117 x18_1).f3) x30_2).size : Int) + 1)))), (wrap64 (x30_2 + 1)), (by first | rfl | (simp; done) | (simp [*]; done)), (by first | rfl | (simp; done) | (simp [*]; done)), (by first | with_reducible exact H' | exact H' | (subst_vars; exact H')), ⟨by have := HK1.out; have := HK2.out; omega⟩, ⟨by (with_reducible repeat (first | apply Kd.N_alloc | apply Kd.N_drewN | apply Kd.N_drew)); exact HO_5.out⟩, ⟨by (with_reducible repeat (first | apply Kd.N_alloc | apply Kd.N_drewN | apply Kd.N_drew)); exact HO_16.out⟩, ⟨by (with_reducible repeat (first | refine blk_drewN ?_ _ | refine blk_drew ?_ | refine blk_alloc ?_ _)); exact BK115.out⟩, ⟨by (with_reducible repeat (first | refine blk_drewN ?_ _ | refine blk_drew ?_ | refine blk_alloc ?_ _)); exact BK121.out⟩, ⟨by repeat (first | (with_reducible exact HR120_3.out) | (with_reducible refine Kd.C_alloc ?_ _) | (with_reducible refine Kd.C_drewN ?_ _) | (with_reducible refine Kd.C_drew ?_) | exact HR120_3.out)⟩, ⟨by repeat (first | (with_reducible exact HR120_4.out) | (with_reducible refine Kd.C_alloc ?_ _) | (with_reducible refine Kd.C_drewN ?_ _) | (with_reducible refine Kd.C_drew ?_) | exact HR120_4.out)⟩, ⟨by repeat (first | (with_reducible first | exact HB.out | apply below_alloc | apply pw_below_drewN | apply below_drew1 | refine below_set ?_ GE115.out | refine below_set ?_ GE121.out) | exact HB.out)⟩⟩
                      · rw [if_neg c23] at H
                        exact absurd H (by simp)
                    · rw [if_neg c22] at H
                      exact absurd H (by simp)
                  · rw [if_neg c21] at H
                    have c21b0 : decide (x30_2 < (((rd_T25 t117 x18_1).f3).length : Int)) = false := decide_eq_false c21
                    clear c21
                    have H' := Aside0.mk H
                    clear H
                    go_wp2
                    go_roundg k2
                    case measure => have := HK1.out; have := HK2.out; omega
                    case rel => exact ⟨(x6_2), (wrap64 (x18_1 + 1)), (by first | rfl | (simp; done) | (simp [*]; done)), (by first | rfl | (simp; done) | (simp [*]; done)), (by first | with_reducible exact H' | exact H' | (subst_vars; exact H')), ⟨by have := HK1.out; have := HK2.out; omega⟩, ⟨by (with_reducible repeat (first | apply Kd.N_alloc | apply Kd.N_drewN | apply Kd.N_drew)); exact Kd.N_mono HO_5.out (fun _ hk => hk.1)⟩, ⟨by (with_reducible repeat (first | apply Kd.N_alloc | apply Kd.N_drewN | apply Kd.N_drew)); exact Kd.N_mono HO_16.out (fun _ hk => hk.1)⟩, ⟨by (with_reducible repeat (first | refine blk_drewN ?_ _ | refine blk_drew ?_ | refine blk_alloc ?_ _)); exact BK115.out⟩, ⟨by repeat (first | (with_reducible first | exact HB.out | apply below_alloc | apply pw_below_drewN | apply below_drew1 | refine below_set ?_ GE115.out | refine below_set ?_ GE121.out) | exact HB.out)⟩⟩
            · rw [if_neg c17] at H
              exact absurd H (by simp)
          · rw [if_neg c16] at H
            exact absurd H (by simp)
        · rw [if_neg c15] at H
          have c15b0 : decide (x18_1 < (t117.length : Int)) = false := decide_eq_false c15
          clear c15
          by_cases c24 : (t117.length : Int) ≤ a1
          · rw [if_pos c24] at H
            have c24b0 : decide ((t117.length : Int) ≤ a1) = true := decide_eq_true c24
            clear c24
            obtain rfl := Option.some.inj H
            go_wp2
            go_ret
            exact ⟨by first | rfl | (simp [errW_none, errW_some] <;> rfl) | (simp [*, errW_none, errW_some] <;> rfl), by repeat (first | (with_reducible first | exact HB.out | apply below_alloc | apply pw_below_drewN | apply below_drew1 | refine below_set ?_ GE115.out) | exact HB.out)⟩
          · rw [if_neg c24] at H
            have c24b0 : decide ((t117.length : Int) ≤ a1) = false := decide_eq_false c24
            clear c24
            obtain rfl := Option.some.inj H
            go_wp2
            go_ret
            exact ⟨by first | rfl | (simp [errW_none, errW_some] <;> rfl) | (simp [*, errW_none, errW_some] <;> rfl), by repeat (first | (with_reducible first | exact HB.out | apply below_alloc | apply pw_below_drewN | apply below_drew1 | refine below_set ?_ GE115.out) | exact HB.out)⟩
end Go.Proofs.Ytjdldlphfifggaa.X
end
section
namespace Go.Proofs.Ytjdldlphfifggaa.X
open Go.RowKit Go.Proofs.YtjdldlphfifggaaW.PrintWords Go.Proofs.YtjdldlphfifggaaW.PrintLast Go.Proofs.YtjdldlphfifggaaW.PrintMore
attribute [local go_sem] max2_int min2_int max_two min_two max_three min_three max_four min_four
set_option linter.unusedVariables false
set_option linter.unusedSimpArgs false
def tree_entries.l0 : Nat → List (S92) → Int → Int → Int → Int → ByteArray → List ByteArray → List (S25) → Option ((List (S92)))
  | 0, _, _, _, _, _, _, _, _ => none
  | k + 1, x3, x11, x12, x124000, x124001, x124002, x124003, x124004 => if x12 < x11 then (if 0 ≤ x12 then (if x12 < (x124003.length : Int) then (if x12 < (x124004.length : Int) then (if x3.length < 1466015503701 then (tree_entries.l0 k (x3 ++ [(⟨rdOf ByteArray.empty x124003 x12, (⟨(rd_T25 x124004 x12).f0, (rd_T25 x124004 x12).f1, (rd_T25 x124004 x12).f2, (rd_T25 x124004 x12).f3, (rd_T25 x124004 x12).f4⟩ : S25)⟩ : S92)]) x11 (wrap64 (x12 + 1)) x124000 x124001 x124002 x124003 x124004) else (none)) else (none)) else (none)) else (none)) else (some x3)
def tree_entries.f (k : Nat) (a0_0 : Int) (a0_1 : Int) (a0_2 : ByteArray) (l0_3 : List ByteArray) (l0_4 : List (S25)) : Option ((List (S92))) := tree_entries.l0 k ([] : List (S92)) (mn (l0_3.length : Int) (l0_4.length : Int)) 0 a0_0 a0_1 a0_2 l0_3 l0_4
theorem tree_entries.mono_l : ∀ k, (∀ y0 y1 y2 y3 y4 y5 y6 y7, LeO (tree_entries.l0 k y0 y1 y2 y3 y4 y5 y6 y7) (tree_entries.l0 (k + 1) y0 y1 y2 y3 y4 y5 y6 y7))
  | 0 => fun _ _ _ _ _ _ _ _ r h => by simp [tree_entries.l0] at h
  | k + 1 => by
    have ih0 := tree_entries.mono_l k
    · intro y0 y1 y2 y3 y4 y5 y6 y7
      unfold tree_entries.l0
      repeat' first
      | (with_reducible exact ih0 _ _ _ _ _ _ _ _)
      | (with_reducible exact LeO.refl _)
      | (with_reducible exact LeO.none _)
      | (with_reducible refine LeO.ite ?_ ?_)
      | (with_reducible refine LeO.bind ?_ (fun _ => ?_))
      | exact ih0 _ _ _ _ _ _ _ _
      | exact LeO.none _
      | refine LeO.ite ?_ ?_
      | refine LeO.bind ?_ (fun _ => ?_)
theorem tree_entries.mono : ∀ a0 a1 a2 a3 a4 k, LeO (tree_entries.f k a0 a1 a2 a3 a4) (tree_entries.f (k + 1) a0 a1 a2 a3 a4) := by
  intro a0 a1 a2 a3 a4 k
  have ih0 := tree_entries.mono_l k
  unfold tree_entries.f
  repeat' first
      | (with_reducible exact ih0 _ _ _ _ _ _ _ _)
      | (with_reducible exact LeO.refl _)
      | (with_reducible exact LeO.none _)
      | (with_reducible refine LeO.ite ?_ ?_)
      | (with_reducible refine LeO.bind ?_ (fun _ => ?_))
      | exact ih0 _ _ _ _ _ _ _ _
      | exact LeO.none _
      | refine LeO.ite ?_ ?_
      | refine LeO.bind ?_ (fun _ => ?_)
def tree_entries.T5 : Bool × List (List Nat × List Nat) := (true, [([], []), ([], []), ([1], [1]), ([], []), ([2, 3], [2, 3]), ([4], [4]), ([], []), ([6], [6]), ([], []), ([7, 8], [7, 8]), ([9], [9]), ([5, 10], [5, 10]), ([11], [11]), ([0, 12], [0, 12]), ([13, 13, 0, 1, 2, 3, 4, 5, 6, 7, 8, 9, 10, 11, 12, 13], [0, 13])])
def tree_entries.B5 : List Nat := [0, 0, 2, 0, 14, 30, 0, 64, 0, 448, 960, 2046, 4094, 8191, 16383]
theorem tree_entries.tab5 : rtab .any (opsOf Try.f69 5) = tree_entries.T5 := by kernel_rfl
theorem tree_entries.bits5 : waitsOk tree_entries.T5.2 tree_entries.B5 = true := by kernel_rfl
set_option maxHeartbeats 8000000 in
set_option maxRecDepth 100000 in
theorem tree_entries.calls (k : Nat) (a0_0 : Int) (a0_1 : Int) (a0_2 : ByteArray) (A0_3 : Option Addr) (c0_3 : Nat) (l0_3 : List ByteArray) (P0_4_ : Nat → Prop) (A0_4 : Option Addr) (c0_4 : Nat) (l0_4 : List (S25)) (r : List (S92)) (w : World) (hr0_3 : Kd.C Kd.string w A0_3 l0_3.length l0_3) (hc0_3 : l0_3.length ≤ c0_3) (hs0_4 : Kd.V k25 25 w w.heap.size (fun k_ => P0_4_ k_) (.slice A0_4 l0_4.length c0_4) l0_4) (h : tree_entries.f k a0_0 a0_1 a0_2 l0_3 l0_4 = some r) :
    Calls Try.prog 69 #[.agg #[.int .i64 a0_0, .int .i64 a0_1, .string a0_2, .slice A0_3 l0_3.length c0_3, .slice A0_4 l0_4.length c0_4]] w fun e w' => ∃ v0_ : Value, e = .returned (v0_) ∧ Kd.N k92 92 w' w.heap.size (fun k_ => (P0_4_ k_ ∨ w.heap.size ≤ k_)) v0_ r ∧ Below w.heap.size w w' := by
  have hu25 := Try.underlying25
  have hu92 := Try.underlying92
  have HR0_3 := Aside0.mk hr0_3
  have HC0_3 := Aside0.mk hc0_3
  clear hr0_3 hc0_3
  have HO0_4 := Aside0.mk (show Kd.V k25 25 w w.heap.size (fun k_ => (P0_4_ k_ ∨ w.heap.size ≤ k_)) (.slice A0_4 l0_4.length c0_4) l0_4 from Kd.V_mono hs0_4 (fun k_ hk => .inl hk))
  have HB := Aside0.mk (Below.refl w.heap.size w)
  have H : (tree_entries.l0 k ([] : List (S92)) (mn (l0_3.length : Int) (l0_4.length : Int)) 0 a0_0 a0_1 a0_2 l0_3 l0_4) = some r := h
  clear h
  obtain ⟨ji2, hji2⟩ : ∃ j_ : Int, (mn (l0_3.length : Int) (l0_4.length : Int)) = j_ := ⟨_, rfl⟩
  replace H : (tree_entries.l0 k ([] : List (S92)) ji2 0 a0_0 a0_1 a0_2 l0_3 l0_4) = some r := by first | (rw [hji2] at H; exact H) | (simp only [hji2] at H ⊢; exact H)
  (try (have hji2l : 0 ≤ ji2 := by (rw [← hji2]; unfold mn; (repeat' split) <;> omega)))
  (try (have hji2m : 0 ≤ ji2 := by omega))
  have hji2_ : (if (l0_4.length : Int) < (l0_3.length : Int) then (l0_4.length : Int) else (l0_3.length : Int)) = ji2 := hji2
  have hji2n_ : (if l0_4.length < l0_3.length then (l0_4.length : Int) else (l0_3.length : Int)) = ji2 := by rw [← hji2_]; (repeat' split) <;> omega
  have H' := Aside0.mk H
  clear H
  go_enter Try.func69, Try.ntmps69
  go_wp2_with (first | ((with_reducible refine gate_dst (N := 1) rfl ?_); refine box_event ?hg (N := 1) ?hd (cs := #[.int .i64 a0_0, .int .i64 a0_1, .string a0_2, .slice A0_3 l0_3.length c0_3, .slice A0_4 l0_4.length c0_4]) (t := 25) ?hr ?_; (case hd => rfl); (case hg => rfl); (case hr => first | (go_simp; done) | (go_simp; rfl)); intro gb123 hg w3 hbox hb; have n0_ := Aside0.mk (Kd.V_below (Kd.V_elderB (by (with_reducible repeat (first | apply Kd.V_alloc | apply Kd.V_drewN | apply Kd.V_drew)); exact HO0_4.out) gb123 (Nat.le_of_eq hg.symm)) hb); have n1_ := Aside0.mk (below_step (by repeat (first | (with_reducible first | exact HB.out | apply below_alloc | apply pw_below_drewN | apply below_drew1) | exact HB.out)) hb); have n2_ := Aside0.mk (hbox); have n3_ := Aside0.mk ((by rw [hg]; exact (below_size (by repeat (first | (with_reducible first | exact HB.out | apply below_alloc | apply pw_below_drewN | apply below_drew1) | exact HB.out))) : w.heap.size ≤ gb123)); have n4_ := Aside0.mk ((by rw [hg]; exact (below_size (by repeat (first | (with_reducible first | exact HB.out | apply below_alloc | apply pw_below_drewN | apply below_drew1) | exact HB.out))) : w.heap.size ≤ gb123)); clear HO0_4; clear HB; have HO0_4 := n0_; have HB := n1_; have BK123 := n2_; have GW123 := n3_; have GE123 := n4_; clear n0_ n1_ n2_ n3_ n4_; clear hb hbox hg; have hcz4_0 : w3.cell? ⟨gb123, 0, none⟩ = some (.int .i64 a0_0) := (blk_cell BK123.out 0).trans rfl; have hcz4_1 : w3.cell? ⟨gb123, 1, none⟩ = some (.int .i64 a0_1) := (blk_cell BK123.out 1).trans rfl; have hcz4_2 : w3.cell? ⟨gb123, 2, none⟩ = some (.string a0_2) := (blk_cell BK123.out 2).trans rfl; have hcz4_3 : w3.cell? ⟨gb123, 3, none⟩ = some (.slice A0_3 l0_3.length c0_3) := (blk_cell BK123.out 3).trans rfl; have hcz4_4 : w3.cell? ⟨gb123, 4, none⟩ = some (.slice A0_4 l0_4.length c0_4) := (blk_cell BK123.out 4).trans rfl; have hfz4_0 := blk_frozen BK123.out 0; have hfz4_1 := blk_frozen BK123.out 1; have hfz4_2 := blk_frozen BK123.out 2; have hfz4_3 := blk_frozen BK123.out 3; have hfz4_4 := blk_frozen BK123.out 4))
  go_loopg [3, 12] k (fun kq v3 v12 w' => ∃ (x3_1 : List (S92)) (x12_1 : Int), v12 = .int .i64 x12_1 ∧ Aside0 (tree_entries.l0 kq x3_1 ji2 x12_1 a0_0 a0_1 a0_2 l0_3 l0_4 = some r) ∧ Aside0 (kq ≤ k) ∧ Aside0 (Kd.N k92 92 w' w.heap.size (fun k_ => (P0_4_ k_ ∨ w.heap.size ≤ k_) ∧ k_ ≠ gb123) v3 x3_1) ∧ Aside0 (Kd.V k25 25 w' w.heap.size (fun k_ => (P0_4_ k_ ∨ w.heap.size ≤ k_) ∧ some k_ ≠ (v3 : Value).ownBlock ∧ k_ ≠ gb123) (.slice A0_4 l0_4.length c0_4) l0_4) ∧ Aside0 (w'.heap[gb123]? = some (.cells #[.int .i64 a0_0, .int .i64 a0_1, .string a0_2, (.slice A0_3 l0_3.length c0_3), (.slice A0_4 l0_4.length c0_4)] 25 (0, 0))) ∧ Aside0 (Below w.heap.size w w'))
  case atStart => exact ⟨(([] : List (S92))), (0), (by first | rfl | (simp; done) | (simp [*]; done)), (by first | with_reducible exact H' | exact H' | (subst_vars; exact H')), ⟨Nat.le_refl _⟩, ⟨by first | exact Kd.R_nil _ _ _ _ _ | exact Kd.N_nil _ _ _ _ _ | exact Kd.V_nil _ _ _ _ _ | exact Kd.Q_nil _ _ _ _ _ | exact Kd.S_nil _ _ _ _ _⟩, ⟨by (with_reducible repeat (first | apply Kd.V_alloc | apply Kd.V_drewN | apply Kd.V_drew)); exact Kd.V_mono HO0_4.out (fun _ hk => ⟨hk.1, ⟨(by simp [Value.ownBlock]), hk.2⟩⟩)⟩, ⟨by (with_reducible repeat (first | refine blk_drewN ?_ _ | refine blk_drew ?_ | refine blk_alloc ?_ _)); exact BK123.out⟩, ⟨by repeat (first | (with_reducible first | exact HB.out | apply below_alloc | apply pw_below_drewN | apply below_drew1 | refine below_set ?_ GE123.out) | exact HB.out)⟩⟩
  case round =>
    clear H'
    try clear p2
    try clear hcz4_0
    try clear hcz4_1
    try clear hcz4_2
    try clear hcz4_3
    try clear hcz4_4
    try clear hfz4_0
    try clear hfz4_1
    try clear hfz4_2
    try clear hfz4_3
    try clear hfz4_4
    obtain ⟨x3_1, x12_1, rfl, HA, HK1, HO_3, HO_124004, BK123, HB⟩ := hrel
    cases gk with
    | zero => exact absurd HA.out (by simp [tree_entries.l0])
    | succ k1 =>
      have H := HA.out
      clear HA
      simp only [tree_entries.l0] at H
      by_cases c5 : x12_1 < ji2
      · rw [if_pos c5] at H
        have c5b0 : decide (x12_1 < ji2) = true := decide_eq_true c5
        clear c5
        by_cases c6 : 0 ≤ x12_1
        · rw [if_pos c6] at H
          have c6b0 : decide (0 ≤ x12_1) = true := decide_eq_true c6
          clear c6
          by_cases c7 : x12_1 < (l0_3.length : Int)
          · rw [if_pos c7] at H
            have c7b0 : decide (x12_1 < (l0_3.length : Int)) = true := decide_eq_true c7
            clear c7
            by_cases c8 : x12_1 < (l0_4.length : Int)
            · rw [if_pos c8] at H
              have c8b0 : decide (x12_1 < (l0_4.length : Int)) = true := decide_eq_true c8
              clear c8
              by_cases c9 : x3_1.length < 1466015503701
              · rw [if_pos c9] at H
                have LMc9 := Aside0.mk c9
                clear c9
                obtain ⟨y126, hy126⟩ : ∃ y_ : List (S92), y_ = (x3_1 ++ [(⟨rdOf ByteArray.empty l0_3 x12_1, (⟨(rd_T25 l0_4 x12_1).f0, (rd_T25 l0_4 x12_1).f1, (rd_T25 l0_4 x12_1).f2, (rd_T25 l0_4 x12_1).f3, (rd_T25 l0_4 x12_1).f4⟩ : S25)⟩ : S92)]) := ⟨_, rfl⟩
                replace H : (tree_entries.l0 k1 y126 ji2 (wrap64 (x12_1 + 1)) a0_0 a0_1 a0_2 l0_3 l0_4) = some r := by first | (rw [hy126]; with_reducible exact H) | (have H2_ := (Option.bind_some _ _).symm.trans H; rw [hy126]; with_reducible exact H2_) | (have H2_ := (Option.bind_some _ _).symm.trans H; with_reducible exact H2_) | with_reducible exact H | (rw [hy126]; exact H) | exact H
                have Ny126 := Aside0.mk hy126
                clear hy126
                have H' := Aside0.mk H
                clear H
                try go_wp2
                have n0_ := Aside0.mk (Kd.N_drew HO_3.out)
                have n1_ := Aside0.mk (Kd.V_drew HO_124004.out)
                have n2_ := Aside0.mk (blk_drew BK123.out)
                have n3_ := Aside0.mk (below_drew1 HB.out)
                clear HO_3
                clear HO_124004
                clear BK123
                clear HB
                have HO_3 := n0_
                have HO_124004 := n1_
                have BK123 := n2_
                have HB := n3_
                clear n0_ n1_ n2_ n3_
                have p124 : 0 ≤ (x12_1 : Int) := of_decide_eq_true (by first | (with_reducible assumption) | assumption)
                have q124 : x12_1 < (l0_3.length : Int) := of_decide_eq_true (by first | (with_reducible assumption) | assumption)
                obtain ⟨ad124, e124, hx124_0⟩ := Kd.at_string HR0_3.out x12_1 p124 q124
                have hw124_0 := hx124_0
                cases e124
                (try replace hx124_0 := (HB.out.cell (World.block_lt_of_cell? w _ hx124_0)).trans hx124_0)
                replace p124 := eq_true p124
                replace q124 := eq_true q124
                have p125 : 0 ≤ (x12_1 : Int) := of_decide_eq_true (by first | (with_reducible assumption) | assumption)
                have q125 : x12_1 < (l0_4.length : Int) := of_decide_eq_true (by first | (with_reducible assumption) | assumption)
                obtain ⟨ad125, A125_3, c125_3, A125_4, c125_4, e125, hx125_0, hx125_1, hx125_2, hx125_3, hx125_4, hl125_3, hi125_3, hl125_4, hi125_4⟩ := at_T25 (Kd.V_reads' HO_124004.out).2.2 x12_1 p125 q125
                cases e125
                obtain ⟨ce125, hce125, hMe125, hcc125⟩ := Kd.V_get HO_124004.out z25 x12_1 p125 (by first | exact q125 | exact of_decide_eq_true (by first | (with_reducible assumption) | assumption) | (have e_ := (Kd.V_reads' HO_124004.out).1; omega))
                obtain ⟨ua125_3, uc125_3, ua125_4, uc125_4, rfl, ul125_3, ge125_3, ul125_4, ge125_4⟩ := k25_openF hMe125
                have hv125_3 := hcc125 3 _ rfl
                rw [add_field _ _ 3 (by omega)] at hv125_3
                replace hv125_3 := Option.some.inj (hv125_3.symm.trans hx125_3)
                injection hv125_3 with hva_ hvn_ hvc_
                rw [hva_] at ge125_3
                rw [hvc_] at ul125_3
                have HL125_3 := Aside0.mk (show Kd.V Kd.string 9 _ w.heap.size _ _ ((rd_T25 l0_4 x12_1).f3) from Kd.V_mk ul125_3 ge125_3)
                clear hva_ hvn_ hvc_ ge125_3 ul125_3
                have hv125_4 := hcc125 4 _ rfl
                rw [add_field _ _ 4 (by omega)] at hv125_4
                replace hv125_4 := Option.some.inj (hv125_4.symm.trans hx125_4)
                injection hv125_4 with hva_ hvn_ hvc_
                rw [hva_] at ge125_4
                rw [hvc_] at ul125_4
                have HL125_4 := Aside0.mk (show Kd.V k25 25 _ w.heap.size _ _ ((rd_T25 l0_4 x12_1).f4) from Kd.V_mk ul125_4 ge125_4)
                clear hva_ hvn_ hvc_ ge125_4 ul125_4
                clear hcc125 hce125
                have HR125_3 := Aside0.mk hi125_3
                have HC125_3 := Aside0.mk hl125_3
                clear hi125_3 hl125_3
                have HR125_4 := Aside0.mk hi125_4
                have HC125_4 := Aside0.mk hl125_4
                clear hi125_4 hl125_4
                replace p125 := eq_true p125
                replace q125 := eq_true q125
                refine start_ (n := 15) (S := fun w' => w'.cell? ⟨gb123, 0, none⟩ = some (.int .i64 a0_0) ∧ w'.cell? ⟨gb123, 1, none⟩ = some (.int .i64 a0_1) ∧ w'.cell? ⟨gb123, 2, none⟩ = some (.string a0_2) ∧ w'.cell? ⟨gb123, 3, none⟩ = some (.slice (some ad124) l0_3.length c0_3) ∧ w'.cell? ⟨gb123, 4, none⟩ = some (.slice (some ad125) l0_4.length c0_4) ∧ w'.cell? (ad124.add (x12_1).toNat) = some (.string (rdOf ByteArray.empty l0_3 x12_1)) ∧ w'.cell? (ad125.add ((x12_1).toNat * 5)) = some (.int .i64 ((rd_T25 l0_4 x12_1).f0)) ∧ w'.cell? ⟨(ad125.add ((x12_1).toNat * 5)).block, (ad125.add ((x12_1).toNat * 5)).off + 1, none⟩ = some (.int .i64 ((rd_T25 l0_4 x12_1).f1)) ∧ w'.cell? ⟨(ad125.add ((x12_1).toNat * 5)).block, (ad125.add ((x12_1).toNat * 5)).off + 2, none⟩ = some (.string ((rd_T25 l0_4 x12_1).f2)) ∧ w'.cell? ⟨(ad125.add ((x12_1).toNat * 5)).block, (ad125.add ((x12_1).toNat * 5)).off + 3, none⟩ = some (.slice A125_3 ((rd_T25 l0_4 x12_1).f3).length c125_3) ∧ w'.cell? ⟨(ad125.add ((x12_1).toNat * 5)).block, (ad125.add ((x12_1).toNat * 5)).off + 4, none⟩ = some (.slice A125_4 ((rd_T25 l0_4 x12_1).f4).length c125_4)) (ds := [12, 13]) #[false, false, false, false, false, false, false, false, false, false, false, false, false, false, false] (by kernel_rfl) rfl rfl ⟨(blk_cell BK123.out 0).trans rfl, (blk_cell BK123.out 1).trans rfl, (blk_cell BK123.out 2).trans rfl, (blk_cell BK123.out 3).trans rfl, (blk_cell BK123.out 4).trans rfl, ((HB.out.cell (World.block_lt_of_cell? w _ hw124_0)).trans hw124_0), hx125_0, hx125_1, hx125_2, hx125_3, hx125_4⟩ (fun hHeld => ?_); refine with_tabW tree_entries.tab5 tree_entries.bits5 (fun HT_ HW_ => ?_)
                generalize wr.drew = w10 at HO_3 HO_124004 BK123 HB HL125_3 HL125_4 HR125_3 HR125_4 hx124_0 hx125_0 hx125_1 hx125_2 hx125_3 hx125_4 hHeld ⊢
                refine pure_ (i := 0) (N := some 15) (v := ?_) (a' := ?_) #[true, false, false, false, false, false, false, false, false, false, false, false, false, false, false] rfl rfl (any_of HT_.out (by kernel_rfl)) (fun _ _ _ h => h) (Or.inl ⟨by rfl, ?_⟩) ?_ ?_
                rotate_left
                · intro w'
                  go_simp
                  with_reducible rfl
                rotate_left
                · simp only [Act.put, List.setIfInBounds_toArray, List.set_cons_zero, List.set_cons_succ, i64_w, i32_w]
                  rfl
                refine pure_ (i := 1) (N := some 16) (v := ?_) (a' := ?_) #[true, true, false, false, false, false, false, false, false, false, false, false, false, false, false] rfl rfl (any_of HT_.out (by kernel_rfl)) (fun _ _ _ h => h) (Or.inl ⟨by rfl, ?_⟩) ?_ ?_
                rotate_left
                · intro w'
                  go_simp
                  with_reducible rfl
                rotate_left
                · simp only [Act.put, List.setIfInBounds_toArray, List.set_cons_zero, List.set_cons_succ, i64_w, i32_w]
                  rfl
                refine pure_ (i := 3) (N := some 18) (v := ?_) (a' := ?_) #[true, true, false, true, false, false, false, false, false, false, false, false, false, false, false] rfl rfl (any_of HT_.out (by kernel_rfl)) (fun _ _ _ h => h) (Or.inl ⟨by rfl, ?_⟩) ?_ ?_
                rotate_left
                · intro w'
                  go_simp
                  with_reducible rfl
                rotate_left
                · simp only [Act.put, List.setIfInBounds_toArray, List.set_cons_zero, List.set_cons_succ, i64_w, i32_w]
                  rfl
                refine pure_ (i := 6) (N := some 21) (v := ?_) (a' := ?_) #[true, true, false, true, false, false, true, false, false, false, false, false, false, false, false] rfl rfl (any_of HT_.out (by kernel_rfl)) (fun _ _ _ h => h) (Or.inl ⟨by rfl, ?_⟩) ?_ ?_
                rotate_left
                · intro w'
                  go_simp
                  with_reducible rfl
                rotate_left
                · simp only [Act.put, List.setIfInBounds_toArray, List.set_cons_zero, List.set_cons_succ, i64_w, i32_w]
                  rfl
                refine pure_ (i := 8) (N := some 23) (v := ?_) (a' := ?_) #[true, true, false, true, false, false, true, false, true, false, false, false, false, false, false] rfl rfl (any_of HT_.out (by kernel_rfl)) (fun _ _ _ h => h) (Or.inl ⟨by rfl, ?_⟩) ?_ ?_
                rotate_left
                · intro w'
                  go_simp
                  with_reducible rfl
                rotate_left
                · simp only [Act.put, List.setIfInBounds_toArray, List.set_cons_zero, List.set_cons_succ, i64_w, i32_w]
                  rfl
                refine take_ (i := 2) (N := some 17) (v := ?_) (a' := ?_) #[true, true, true, true, false, false, true, false, true, false, false, false, false, false, false] rfl rfl (take_ofW HT_.out HW_.out (by kernel_rfl)) (fun _ _ _ h => h) (Or.inl ⟨by rfl, ?_⟩) hHeld ?_ ?_
                rotate_left
                · rintro w' ⟨s0, s1, s2, s3, s4, s5, s6, s7, s8, s9, s10⟩
                  go_simp
                  with_reducible rfl
                rotate_left
                · simp only [Act.put, List.setIfInBounds_toArray, List.set_cons_zero, List.set_cons_succ, i64_w, i32_w]
                  rfl
                refine pure_ (i := 4) (N := some 19) (v := ?_) (a' := ?_) #[true, true, true, true, true, false, true, false, true, false, false, false, false, false, false] rfl rfl (any_of HT_.out (by kernel_rfl)) (fun _ _ _ h => h) (Or.inl ⟨by rfl, ?_⟩) ?_ ?_
                rotate_left
                · intro w'
                  go_simp
                  with_reducible rfl
                rotate_left
                · simp only [Act.put, List.setIfInBounds_toArray, List.set_cons_zero, List.set_cons_succ, i64_w, i32_w]
                  rfl
                refine take_ (i := 5) (N := some 20) (v := ?_) (a' := ?_) #[true, true, true, true, true, true, true, false, true, false, false, false, false, false, false] rfl rfl (take_ofW HT_.out HW_.out (by kernel_rfl)) (fun _ _ _ h => h) (Or.inl ⟨by rfl, ?_⟩) hHeld ?_ ?_
                rotate_left
                · rintro w' ⟨s0, s1, s2, s3, s4, s5, s6, s7, s8, s9, s10⟩
                  go_simp
                  with_reducible rfl
                rotate_left
                · simp only [Act.put, List.setIfInBounds_toArray, List.set_cons_zero, List.set_cons_succ, i64_w, i32_w]
                  rfl
                refine take_ (i := 7) (N := some 22) (v := ?_) (a' := ?_) #[true, true, true, true, true, true, true, true, true, false, false, false, false, false, false] rfl rfl (take_ofW HT_.out HW_.out (by kernel_rfl)) (fun _ _ _ h => h) (Or.inl ⟨by rfl, ?_⟩) hHeld ?_ ?_
                rotate_left
                · rintro w' ⟨s0, s1, s2, s3, s4, s5, s6, s7, s8, s9, s10⟩
                  go_simp
                  with_reducible rfl
                rotate_left
                · simp only [Act.put, List.setIfInBounds_toArray, List.set_cons_zero, List.set_cons_succ, i64_w, i32_w]
                  rfl
                refine pure_ (i := 9) (N := some 24) (v := ?_) (a' := ?_) #[true, true, true, true, true, true, true, true, true, true, false, false, false, false, false] rfl rfl (any_of HT_.out (by kernel_rfl)) (fun _ _ _ h => h) (Or.inl ⟨by rfl, ?_⟩) ?_ ?_
                rotate_left
                · intro w'
                  go_simp
                  with_reducible rfl
                rotate_left
                · simp only [Act.put, List.setIfInBounds_toArray, List.set_cons_zero, List.set_cons_succ, i64_w, i32_w]
                  rfl
                refine take_ (i := 10) (N := some 25) (v := ?_) (a' := ?_) #[true, true, true, true, true, true, true, true, true, true, true, false, false, false, false] rfl rfl (take_ofW HT_.out HW_.out (by kernel_rfl)) (fun _ _ _ h => h) (Or.inl ⟨by rfl, ?_⟩) hHeld ?_ ?_
                rotate_left
                · rintro w' ⟨s0, s1, s2, s3, s4, s5, s6, s7, s8, s9, s10⟩
                  go_simp
                  with_reducible rfl
                rotate_left
                · simp only [Act.put, List.setIfInBounds_toArray, List.set_cons_zero, List.set_cons_succ, i64_w, i32_w]
                  rfl
                refine pure_ (i := 11) (N := some 26) (v := ?_) (a' := ?_) #[true, true, true, true, true, true, true, true, true, true, true, true, false, false, false] rfl rfl (any_of HT_.out (by kernel_rfl)) (fun _ _ _ h => h) (Or.inl ⟨by rfl, ?_⟩) ?_ ?_
                rotate_left
                · intro w'
                  go_simp
                  with_reducible rfl
                rotate_left
                · simp only [Act.put, List.setIfInBounds_toArray, List.set_cons_zero, List.set_cons_succ, i64_w, i32_w]
                  rfl
                refine last_ (i := 12) (N := some 27) #[true, true, true, true, true, true, true, true, true, true, true, true, true, false, false] rfl rfl (one_of HT_.out (by kernel_rfl)) (by decide) (fun K hK => ?_)
                refine value_ (w1 := ?_) (v := ?_) (by rfl) rfl ?_ ?_
                rotate_left 2
                · go_simp
                  constructor
                  · rfl
                  · rfl
                refine hK.out _ _ ?_
                clear hK K
                refine norm_ (a' := ?_) ?_ ?_
                rotate_left
                · show Act.put _ (some 27) _ = _
                  simp only [Act.put, List.setIfInBounds_toArray, List.set_cons_zero, List.set_cons_succ, i64_w, i32_w]
                  rfl
                refine last_ (i := 13) (N := some 28) #[true, true, true, true, true, true, true, true, true, true, true, true, true, true, false] rfl rfl (one_of HT_.out (by kernel_rfl)) (by decide) (fun K hK => ?_)
                refine Kd.N_append_step k92 (w0 := w) w.heap.size (by rfl) (.tmp 15) (.tmp 27) 88 92 (.agg #[(.string ⟨#[]⟩), (.int .i64 0), (.int .i64 0), (.string ⟨#[]⟩), (.slice none 0 0), (.slice none 0 0)]) 96 rfl Try.underlying88 info92 rfl (by decide) (by omega) u3 x3_1 (⟨rdOf ByteArray.empty l0_3 x12_1, (⟨(rd_T25 l0_4 x12_1).f0, (rd_T25 l0_4 x12_1).f1, (rd_T25 l0_4 x12_1).f2, (rd_T25 l0_4 x12_1).f3, (rd_T25 l0_4 x12_1).f4⟩ : S25)⟩ : S92) [.string (rdOf ByteArray.empty l0_3 x12_1), .int .i64 ((rd_T25 l0_4 x12_1).f0), .int .i64 ((rd_T25 l0_4 x12_1).f1), .string ((rd_T25 l0_4 x12_1).f2), .slice A125_3 ((rd_T25 l0_4 x12_1).f3).length c125_3, .slice A125_4 ((rd_T25 l0_4 x12_1).f4).length c125_4] (fun k_ => (P0_4_ k_ ∨ w.heap.size ≤ k_) ∧ k_ ≠ gb123) (fun k_ => ((fun k_ => (P0_4_ k_ ∨ w.heap.size ≤ k_) ∧ k_ ≠ gb123)) k_ ∧ some k_ ≠ (u3 : Value).ownBlock) rfl rfl ?aP (fun _ hk => hk) ?aF ?aO ?aB ?aS ?aL ?_
                (case aP => exact (k92_mkF _ _ (⟨rdOf ByteArray.empty l0_3 x12_1, (⟨(rd_T25 l0_4 x12_1).f0, (rd_T25 l0_4 x12_1).f1, (rd_T25 l0_4 x12_1).f2, (rd_T25 l0_4 x12_1).f3, (rd_T25 l0_4 x12_1).f4⟩ : S25)⟩ : S92) (Kd.V_reads' (Kd.V_mono (ok' := (fun k_ => ((fun k_ => (P0_4_ k_ ∨ w.heap.size ≤ k_) ∧ k_ ≠ gb123)) k_ ∧ some k_ ≠ (u3 : Value).ownBlock)) (HL125_3.out) (fun k_ hk => ⟨⟨hk.1, hk.2.2⟩, hk.2.1⟩))).2.1 (Kd.V_F (Kd.V_mono (ok' := (fun k_ => ((fun k_ => (P0_4_ k_ ∨ w.heap.size ≤ k_) ∧ k_ ≠ gb123)) k_ ∧ some k_ ≠ (u3 : Value).ownBlock)) (HL125_3.out) (fun k_ hk => ⟨⟨hk.1, hk.2.2⟩, hk.2.1⟩))) (Kd.V_reads' (Kd.V_mono (ok' := (fun k_ => ((fun k_ => (P0_4_ k_ ∨ w.heap.size ≤ k_) ∧ k_ ≠ gb123)) k_ ∧ some k_ ≠ (u3 : Value).ownBlock)) (HL125_4.out) (fun k_ hk => ⟨⟨hk.1, hk.2.2⟩, hk.2.1⟩))).2.1 (Kd.V_F (Kd.V_mono (ok' := (fun k_ => ((fun k_ => (P0_4_ k_ ∨ w.heap.size ≤ k_) ∧ k_ ≠ gb123)) k_ ∧ some k_ ≠ (u3 : Value).ownBlock)) (HL125_4.out) (fun k_ hk => ⟨⟨hk.1, hk.2.2⟩, hk.2.1⟩)))))
                (case aB => exact (by repeat (first | (with_reducible first | exact HB.out | apply below_alloc | apply pw_below_drewN | apply below_drew1 | refine below_set ?_ GE123.out) | exact HB.out)))
                (case aF => exact (fun k_ hk => ⟨(.inr (Nat.le_trans (below_size (by repeat (first | (with_reducible first | exact HB.out | apply below_alloc | apply pw_below_drewN | apply below_drew1 | refine below_set ?_ GE123.out) | exact HB.out))) hk)), Kd.freshB (g := gb123) (o := .cells #[.int .i64 a0_0, .int .i64 a0_1, .string a0_2, .slice (some ad124) l0_3.length c0_3, .slice (some ad125) l0_4.length c0_4] 25 (0, 0)) (by (with_reducible repeat (first | refine blk_drewN ?_ _ | refine blk_drew ?_ | refine blk_alloc ?_ _)); exact BK123.out) k_ hk⟩))
                (case aO => exact (by (with_reducible repeat (first | apply Kd.N_alloc | apply Kd.N_drewN | apply Kd.N_drew)); exact HO_3.out))
                (case aS => exact (below_size (by repeat (first | (with_reducible first | exact HB.out | apply below_alloc | apply pw_below_drewN | apply below_drew1 | refine below_set ?_ GE123.out) | exact HB.out))))
                (case aL => have := LMc9.out; omega)
                intro v127 w11 ho hb hg hat
                rw [← Ny126.out] at ho
                have n0_ := Aside0.mk (Kd.V_afterv (ok := (fun k_ => (P0_4_ k_ ∨ w.heap.size ≤ k_) ∧ k_ ≠ gb123)) (by (with_reducible repeat (first | apply Kd.V_alloc | apply Kd.V_drewN | apply Kd.V_drew)); exact Kd.V_mono HO_124004.out (fun _ hk => ⟨⟨hk.1, hk.2.2⟩, hk.2.1⟩)) hg hat)
                have n1_ := Aside0.mk (blk_grown (g := gb123) (o := .cells #[.int .i64 a0_0, .int .i64 a0_1, .string a0_2, .slice (some ad124) l0_3.length c0_3, .slice (some ad125) l0_4.length c0_4] 25 (0, 0)) (by (with_reducible repeat (first | refine blk_drewN ?_ _ | refine blk_drew ?_ | refine blk_alloc ?_ _)); exact BK123.out) hg (Kd.N_ne HO_3.out BK123.out (by decide)))
                have n2_ := Aside0.mk (Kd.V_afterv (ok := (fun k_ => (P0_4_ k_ ∨ w.heap.size ≤ k_) ∧ k_ ≠ gb123)) (by (with_reducible repeat (first | apply Kd.V_alloc | apply Kd.V_drewN | apply Kd.V_drew)); exact Kd.V_mono HL125_3.out (fun _ hk => ⟨⟨hk.1, hk.2.2⟩, hk.2.1⟩)) hg hat)
                have n3_ := Aside0.mk (Kd.V_afterv (ok := (fun k_ => (P0_4_ k_ ∨ w.heap.size ≤ k_) ∧ k_ ≠ gb123)) (by (with_reducible repeat (first | apply Kd.V_alloc | apply Kd.V_drewN | apply Kd.V_drew)); exact Kd.V_mono HL125_4.out (fun _ hk => ⟨⟨hk.1, hk.2.2⟩, hk.2.1⟩)) hg hat)
                have n4_ := Aside0.mk (hb)
                have n5_ := Aside0.mk (ho)
                clear HO_124004
                clear BK123
                clear HL125_3
                clear HL125_4
                clear HB
                clear HO_3
                have HO_124004 := n0_
                have BK123 := n1_
                have HL125_3 := n2_
                have HL125_4 := n3_
                have HB := n4_
                have HO128 := n5_
                clear n0_ n1_ n2_ n3_ n4_ n5_
                clear ho hb hg hat
                refine hK.out _ _ ?_
                clear hK K
                refine norm_ (a' := ?_) ?_ ?_
                rotate_left
                · show Act.put _ (some 28) _ = _
                  simp only [Act.put, List.setIfInBounds_toArray, List.set_cons_zero, List.set_cons_succ, i64_w, i32_w]
                  rfl
                refine pure_ (i := 14) (N := some 3) (v := ?_) (a' := ?_) #[true, true, true, true, true, true, true, true, true, true, true, true, true, true, true] rfl rfl (any_of HT_.out (by kernel_rfl)) (fun _ _ _ h => h) (Or.inl ⟨by rfl, ?_⟩) ?_ ?_
                rotate_left
                · intro w'
                  go_simp
                  with_reducible rfl
                rotate_left
                · simp only [Act.put, List.setIfInBounds_toArray, List.set_cons_zero, List.set_cons_succ, i64_w, i32_w]
                  rfl
                refine done_ (done_of HT_.out (by kernel_rfl)) ?_
                try go_wp2
                go_roundg k1
                case measure => have := HK1.out; omega
                case rel => exact ⟨(y126), (wrap64 (x12_1 + 1)), (by first | rfl | (simp; done) | (simp [*]; done)), (by first | with_reducible exact H' | exact H' | (subst_vars; exact H')), ⟨by have := HK1.out; omega⟩, ⟨by (with_reducible repeat (first | apply Kd.N_alloc | apply Kd.N_drewN | apply Kd.N_drew)); exact HO128.out⟩, ⟨by (with_reducible repeat (first | apply Kd.V_alloc | apply Kd.V_drewN | apply Kd.V_drew)); exact Kd.V_mono HO_124004.out (fun _ hk => ⟨hk.1.1, ⟨hk.2, hk.1.2⟩⟩)⟩, ⟨by (with_reducible repeat (first | refine blk_drewN ?_ _ | refine blk_drew ?_ | refine blk_alloc ?_ _)); exact BK123.out⟩, ⟨by repeat (first | (with_reducible first | exact HB.out | apply below_alloc | apply pw_below_drewN | apply below_drew1 | refine below_set ?_ GE123.out) | exact HB.out)⟩⟩
              · rw [if_neg c9] at H
                exact absurd H (by simp)
            · rw [if_neg c8] at H
              exact absurd H (by simp)
          · rw [if_neg c7] at H
            exact absurd H (by simp)
        · rw [if_neg c6] at H
          exact absurd H (by simp)
      · rw [if_neg c5] at H
        have c5b0 : decide (x12_1 < ji2) = false := decide_eq_false c5
        clear c5
        obtain rfl := Option.some.inj H
        go_wp2
        go_ret
        exact ⟨_, by first | rfl | (simp [errW_none, errW_some] <;> rfl) | (simp only [← hji2]; first | rfl | (simp [errW_none, errW_some] <;> rfl)) | (simp [*, errW_none, errW_some] <;> rfl), by (with_reducible repeat (first | apply Kd.N_alloc | apply Kd.N_drewN | apply Kd.N_drew)); exact Kd.N_mono HO_3.out (fun _ hk => hk.1), by repeat (first | (with_reducible first | exact HB.out | apply below_alloc | apply pw_below_drewN | apply below_drew1 | refine below_set ?_ GE123.out) | exact HB.out)⟩
end Go.Proofs.Ytjdldlphfifggaa.X
end
section
namespace Go.Proofs.Ytjdldlphfifggaa.X
open Go.RowKit Go.Proofs.YtjdldlphfifggaaW.PrintWords Go.Proofs.YtjdldlphfifggaaW.PrintLast Go.Proofs.YtjdldlphfifggaaW.PrintMore
attribute [local go_sem] max2_int min2_int max_two min_two max_three min_three max_four min_four
set_option linter.unusedVariables false
set_option linter.unusedSimpArgs false
def tree_Get.l0 : Nat → ByteArray → List (S92) → Int → Int → Option (Int × Int × ByteArray × List ByteArray × (List (S25)) × Bool)
  | 0, _, _, _, _ => none
  | k + 1, x1, x12, x13, x14 => if x14 < x13 then (if 0 ≤ x14 then (if x14 < (x12.length : Int) then (if ((rd_T92 x12 x14).f0).toList = x1.toList then (some ((rd_T92 x12 x14).f1.f0, (rd_T92 x12 x14).f1.f1, (rd_T92 x12 x14).f1.f2, (rd_T92 x12 x14).f1.f3, (rd_T92 x12 x14).f1.f4, true)) else (tree_Get.l0 k x1 x12 x13 (wrap64 (x14 + 1)))) else (none)) else (none)) else (some (0, 0, (⟨#[]⟩ : ByteArray), ([] : List ByteArray), ([] : List (S25)), false))
def tree_Get.f (k : Nat) (a0_0 : Int) (a0_1 : Int) (a0_2 : ByteArray) (l0_3 : List ByteArray) (l0_4 : List (S25)) (a1 : ByteArray) : Option (Int × Int × ByteArray × List ByteArray × (List (S25)) × Bool) := if a0_0 = 6 then ((tree_entries.f k a0_0 a0_1 a0_2 l0_3 l0_4).bind fun t132 => (tree_Get.l0 k a1 t132 (t132.length : Int) 0)) else (some (0, 0, (⟨#[]⟩ : ByteArray), ([] : List ByteArray), ([] : List (S25)), false))
theorem tree_Get.mono_l : ∀ k, (∀ y0 y1 y2 y3, LeO (tree_Get.l0 k y0 y1 y2 y3) (tree_Get.l0 (k + 1) y0 y1 y2 y3))
  | 0 => fun _ _ _ _ r h => by simp [tree_Get.l0] at h
  | k + 1 => by
    have ih0 := tree_Get.mono_l k
    · intro y0 y1 y2 y3
      unfold tree_Get.l0
      repeat' first
      | (with_reducible exact ih0 _ _ _ _)
      | (with_reducible exact tree_entries.mono _ _ _ _ _ _)
      | (with_reducible exact LeO.refl _)
      | (with_reducible exact LeO.none _)
      | (with_reducible refine LeO.ite ?_ ?_)
      | (with_reducible refine LeO.bind ?_ (fun _ => ?_))
      | exact ih0 _ _ _ _
      | exact tree_entries.mono _ _ _ _ _ _
      | exact LeO.none _
      | refine LeO.ite ?_ ?_
      | refine LeO.bind ?_ (fun _ => ?_)
theorem tree_Get.mono : ∀ a0 a1 a2 a3 a4 a5 k, LeO (tree_Get.f k a0 a1 a2 a3 a4 a5) (tree_Get.f (k + 1) a0 a1 a2 a3 a4 a5) := by
  intro a0 a1 a2 a3 a4 a5 k
  have ih0 := tree_Get.mono_l k
  unfold tree_Get.f
  repeat' first
      | (with_reducible exact ih0 _ _ _ _)
      | (with_reducible exact tree_entries.mono _ _ _ _ _ _)
      | (with_reducible exact LeO.refl _)
      | (with_reducible exact LeO.none _)
      | (with_reducible refine LeO.ite ?_ ?_)
      | (with_reducible refine LeO.bind ?_ (fun _ => ?_))
      | exact ih0 _ _ _ _
      | exact tree_entries.mono _ _ _ _ _ _
      | exact LeO.none _
      | refine LeO.ite ?_ ?_
      | refine LeO.bind ?_ (fun _ => ?_)
set_option maxHeartbeats 8000000 in
set_option maxRecDepth 100000 in
theorem tree_Get.calls (k : Nat) (a0_0 : Int) (a0_1 : Int) (a0_2 : ByteArray) (A0_3 : Option Addr) (c0_3 : Nat) (l0_3 : List ByteArray) (P0_4_ : Nat → Prop) (A0_4 : Option Addr) (c0_4 : Nat) (l0_4 : List (S25)) (a1 : ByteArray) (r1 : Int) (r2 : Int) (r3 : ByteArray) (r4 : List ByteArray) (r5 : List (S25)) (r6 : Bool) (w : World) (hr0_3 : Kd.C Kd.string w A0_3 l0_3.length l0_3) (hc0_3 : l0_3.length ≤ c0_3) (hs0_4 : Kd.V k25 25 w w.heap.size (fun k_ => P0_4_ k_) (.slice A0_4 l0_4.length c0_4) l0_4) (h : tree_Get.f k a0_0 a0_1 a0_2 l0_3 l0_4 a1 = some (r1, r2, r3, r4, r5, r6)) :
    Calls Try.prog 30 #[.agg #[.int .i64 a0_0, .int .i64 a0_1, .string a0_2, .slice A0_3 l0_3.length c0_3, .slice A0_4 l0_4.length c0_4], .string a1] w fun e w' => ∃ v3_ v4_ : Value, e = .returned (.tuple #[.agg #[.int .i64 r1, .int .i64 r2, .string r3, v3_, v4_], .bool r6]) ∧ Kd.V Kd.string 9 w' w.heap.size (fun k_ => (P0_4_ k_ ∨ w.heap.size ≤ k_)) v3_ r4 ∧ Kd.V k25 25 w' w.heap.size (fun k_ => (P0_4_ k_ ∨ w.heap.size ≤ k_)) v4_ r5 ∧ Below w.heap.size w w' := by
  have hu25 := Try.underlying25
  have hu92 := Try.underlying92
  have HR0_3 := Aside0.mk hr0_3
  have HC0_3 := Aside0.mk hc0_3
  clear hr0_3 hc0_3
  have HO0_4 := Aside0.mk (show Kd.V k25 25 w w.heap.size (fun k_ => (P0_4_ k_ ∨ w.heap.size ≤ k_)) (.slice A0_4 l0_4.length c0_4) l0_4 from Kd.V_mono hs0_4 (fun k_ hk => .inl hk))
  have HB := Aside0.mk (Below.refl w.heap.size w)
  have H : (if a0_0 = 6 then ((tree_entries.f k a0_0 a0_1 a0_2 l0_3 l0_4).bind fun t132 => (tree_Get.l0 k a1 t132 (t132.length : Int) 0)) else (some (0, 0, (⟨#[]⟩ : ByteArray), ([] : List ByteArray), ([] : List (S25)), false))) = some (r1, r2, r3, r4, r5, r6) := h
  clear h
  by_cases c3 : a0_0 = 6
  · rw [if_pos c3] at H
    have c3b0 : (a0_0 == 6) = true := beq_iff_eq.mpr c3
    have c3b1 : (a0_0 != 6) = false := bne_eq_false_iff_eq.mpr c3
    clear c3
    replace H := Option.bind_eq_some_iff.mp H
    obtain ⟨t132, A40, H⟩ := H
    replace H : (tree_Get.l0 k a1 t132 (t132.length : Int) 0) = some (r1, r2, r3, r4, r5, r6) := H
    have A4 := Aside0.mk A40
    clear A40
    have H' := Aside0.mk H
    clear H
    go_enter Try.func30, Try.ntmps30
    go_wp2_with (first | ((with_reducible refine gate_dst (N := 2) rfl ?_); refine box_event ?hg (N := 2) ?hd (cs := #[.int .i64 a0_0, .int .i64 a0_1, .string a0_2, .slice A0_3 l0_3.length c0_3, .slice A0_4 l0_4.length c0_4]) (t := 25) ?hr ?_; (case hd => rfl); (case hg => rfl); (case hr => first | (go_simp; done) | (go_simp; rfl)); intro gb130 hg w5 hbox hb; have n0_ := Aside0.mk (Kd.V_below (Kd.V_elderB (by (with_reducible repeat (first | apply Kd.V_alloc | apply Kd.V_drewN | apply Kd.V_drew)); exact HO0_4.out) gb130 (Nat.le_of_eq hg.symm)) hb); have n1_ := Aside0.mk (below_step (by repeat (first | (with_reducible first | exact HB.out | apply below_alloc | apply pw_below_drewN | apply below_drew1) | exact HB.out)) hb); have n2_ := Aside0.mk (hbox); have n3_ := Aside0.mk ((by rw [hg]; exact (below_size (by repeat (first | (with_reducible first | exact HB.out | apply below_alloc | apply pw_below_drewN | apply below_drew1) | exact HB.out))) : w.heap.size ≤ gb130)); have n4_ := Aside0.mk ((by rw [hg]; exact (below_size (by repeat (first | (with_reducible first | exact HB.out | apply below_alloc | apply pw_below_drewN | apply below_drew1) | exact HB.out))) : w.heap.size ≤ gb130)); clear HO0_4; clear HB; have HO0_4 := n0_; have HB := n1_; have BK130 := n2_; have GW130 := n3_; have GE130 := n4_; clear n0_ n1_ n2_ n3_ n4_; clear hb hbox hg) | ((with_reducible refine gate_dst (N := 4) rfl ?_); refine box_event ?hg (N := 4) ?hd (cs := #[.int .i64 0, .int .i64 0, .string (⟨#[]⟩ : ByteArray), .slice none 0 0, .slice none 0 0]) (t := 25) ?hr ?_; (case hd => rfl); (case hg => rfl); (case hr => first | (go_simp; done) | (go_simp; rfl)); intro gb131 hg w6 hbox hb; have n0_ := Aside0.mk (Kd.V_below (Kd.V_elderB (by (with_reducible repeat (first | apply Kd.V_alloc | apply Kd.V_drewN | apply Kd.V_drew)); exact HO0_4.out) gb131 (Nat.le_of_eq hg.symm)) hb); have n1_ := Aside0.mk (blk_below (g := gb130) (o := .cells #[.int .i64 a0_0, .int .i64 a0_1, .string a0_2, .slice A0_3 l0_3.length c0_3, .slice A0_4 l0_4.length c0_4] 25 (0, 0)) (by (with_reducible repeat (first | refine blk_drewN ?_ _ | refine blk_drew ?_ | refine blk_alloc ?_ _)); exact BK130.out) hb); have n2_ := Aside0.mk (below_step (by repeat (first | (with_reducible first | exact HB.out | apply below_alloc | apply pw_below_drewN | apply below_drew1 | refine below_set ?_ GE130.out) | exact HB.out)) hb); have n3_ := Aside0.mk (hbox); have n4_ := Aside0.mk ((by rw [hg]; exact (below_size (by repeat (first | (with_reducible first | exact HB.out | apply below_alloc | apply pw_below_drewN | apply below_drew1 | refine below_set ?_ GE130.out) | exact HB.out))) : w.heap.size ≤ gb131)); have n5_ := Aside0.mk ((by rw [hg]; exact (below_size (by repeat (first | (with_reducible first | exact HB.out | apply below_alloc | apply pw_below_drewN | apply below_drew1 | refine below_set ?_ GE130.out) | exact HB.out))) : w.heap.size ≤ gb131)); have n6_ := Aside0.mk ((by rw [hg]; exact Nat.ne_of_lt (blk_lt (g := gb130) (o := .cells #[.int .i64 a0_0, .int .i64 a0_1, .string a0_2, .slice A0_3 l0_3.length c0_3, .slice A0_4 l0_4.length c0_4] 25 (0, 0)) (by (with_reducible repeat (first | refine blk_drewN ?_ _ | refine blk_drew ?_ | refine blk_alloc ?_ _)); exact BK130.out)) : gb130 ≠ gb131)); have n7_ := Aside0.mk ((by rw [hg]; exact Nat.ne_of_gt (blk_lt (g := gb130) (o := .cells #[.int .i64 a0_0, .int .i64 a0_1, .string a0_2, .slice A0_3 l0_3.length c0_3, .slice A0_4 l0_4.length c0_4] 25 (0, 0)) (by (with_reducible repeat (first | refine blk_drewN ?_ _ | refine blk_drew ?_ | refine blk_alloc ?_ _)); exact BK130.out)) : gb131 ≠ gb130)); clear HO0_4; clear BK130; clear HB; have HO0_4 := n0_; have BK130 := n1_; have HB := n2_; have BK131 := n3_; have GW131 := n4_; have GE131 := n5_; have NB130_131 := n6_; have NB131_130 := n7_; clear n0_ n1_ n2_ n3_ n4_ n5_ n6_ n7_; clear hb hbox hg; have hnb7 := NB130_131.out; have hnc7 := NB131_130.out; have hcz8_0 : w6.cell? ⟨gb130, 0, none⟩ = some (.int .i64 a0_0) := (blk_cell BK130.out 0).trans rfl; have hcz8_1 : w6.cell? ⟨gb130, 1, none⟩ = some (.int .i64 a0_1) := (blk_cell BK130.out 1).trans rfl; have hcz8_2 : w6.cell? ⟨gb130, 2, none⟩ = some (.string a0_2) := (blk_cell BK130.out 2).trans rfl; have hcz8_3 : w6.cell? ⟨gb130, 3, none⟩ = some (.slice A0_3 l0_3.length c0_3) := (blk_cell BK130.out 3).trans rfl; have hcz8_4 : w6.cell? ⟨gb130, 4, none⟩ = some (.slice A0_4 l0_4.length c0_4) := (blk_cell BK130.out 4).trans rfl; have hfz8_0 := blk_frozen BK130.out 0; have hfz8_1 := blk_frozen BK130.out 1; have hfz8_2 := blk_frozen BK130.out 2; have hfz8_3 := blk_frozen BK130.out 3; have hfz8_4 := blk_frozen BK130.out 4) | ((with_reducible refine gate_callee (f := 69) rfl ?_); refine goesL_ (some 12) rfl rfl Try.func69 (by kernel_rfl) rfl #[.agg #[.int .i64 a0_0, .int .i64 a0_1, .string a0_2, .slice A0_3 l0_3.length c0_3, .slice A0_4 l0_4.length c0_4]] rfl (by (try simp only [List.map_toArray, List.map_cons, List.map_nil]); first | done | rfl | (simp only [List.length_drop, List.length_take]; rfl)) ?_; (with_reducible refine (tree_entries.calls k a0_0 a0_1 a0_2 _ _ l0_3 (fun k_ => (((P0_4_ k_ ∨ w.heap.size ≤ k_) ∧ k_ ≠ gb130) ∧ k_ ≠ gb131)) _ _ l0_4 t132 _ ?side1 ?side2 ?side3 A4.out).mono ?_); (case side1 => repeat (first | exact (Kd.C_below HR0_3.out HB.out) | (with_reducible refine Kd.C_alloc ?_ _) | (with_reducible refine Kd.C_drewN ?_ _) | (with_reducible refine Kd.C_drew ?_))); (case side2 => exact HC0_3.out); (case side3 => exact HO0_4.out); rintro e w9 ⟨v133, rfl, ho0, hb⟩; refine ⟨_, rfl, ?_⟩; have n0_ := Aside0.mk (Kd.V_elder' (by (with_reducible repeat (first | apply Kd.V_alloc | apply Kd.V_drewN | apply Kd.V_drew)); exact HO0_4.out) (by first | exact Kd.N_base ho0 | exact Kd.N_base (Kd.R_N (Kd.R_bound ho0)) | exact Kd.N_base (Kd.R_N ho0)) hb); have n1_ := Aside0.mk (Kd.N_lower (Kd.N_mono (ok' := fun k_ => (P0_4_ k_ ∨ w.heap.size ≤ k_) ∧ k_ ≠ gb130 ∧ k_ ≠ gb131) ho0 (fun k_ hk_ => ⟨Or.elim hk_ (fun hs_ => hs_.1.1) (fun hn_ => (.inr (Nat.le_trans (below_size (by repeat (first | (with_reducible first | exact HB.out | apply below_alloc | apply pw_below_drewN | apply below_drew1 | refine below_set ?_ GE130.out | refine below_set ?_ GE131.out) | exact HB.out))) hn_))), Or.elim hk_ (fun hs_ => hs_.1.2) (fun hn_ => (Kd.freshB (g := gb130) (o := .cells #[.int .i64 a0_0, .int .i64 a0_1, .string a0_2, .slice A0_3 l0_3.length c0_3, .slice A0_4 l0_4.length c0_4] 25 (0, 0)) (by (with_reducible repeat (first | refine blk_drewN ?_ _ | refine blk_drew ?_ | refine blk_alloc ?_ _)); exact BK130.out) k_ hn_)), Or.elim hk_ (fun hs_ => hs_.2) (fun hn_ => (Kd.freshB (g := gb131) (o := .cells #[.int .i64 0, .int .i64 0, .string (⟨#[]⟩ : ByteArray), .slice none 0 0, .slice none 0 0] 25 (0, 0)) (by (with_reducible repeat (first | refine blk_drewN ?_ _ | refine blk_drew ?_ | refine blk_alloc ?_ _)); exact BK131.out) k_ hn_))⟩)) (below_size (by repeat (first | (with_reducible first | exact HB.out | apply below_alloc | apply pw_below_drewN | apply below_drew1 | refine below_set ?_ GE130.out | refine below_set ?_ GE131.out) | exact HB.out)))); have n2_ := Aside0.mk (blk_below (g := gb130) (o := .cells #[.int .i64 a0_0, .int .i64 a0_1, .string a0_2, .slice A0_3 l0_3.length c0_3, .slice A0_4 l0_4.length c0_4] 25 (0, 0)) (by (with_reducible repeat (first | refine blk_drewN ?_ _ | refine blk_drew ?_ | refine blk_alloc ?_ _)); exact BK130.out) hb); have n3_ := Aside0.mk (blk_below (g := gb131) (o := .cells #[.int .i64 0, .int .i64 0, .string (⟨#[]⟩ : ByteArray), .slice none 0 0, .slice none 0 0] 25 (0, 0)) (by (with_reducible repeat (first | refine blk_drewN ?_ _ | refine blk_drew ?_ | refine blk_alloc ?_ _)); exact BK131.out) hb); have n4_ := Aside0.mk (below_step (by repeat (first | (with_reducible first | exact HB.out | apply below_alloc | apply pw_below_drewN | apply below_drew1 | refine below_set ?_ GE130.out | refine below_set ?_ GE131.out) | exact HB.out)) hb); clear HO0_4; clear BK130; clear BK131; clear HB; have HO0_4 := n0_; have HO134 := n1_; have BK130 := n2_; have BK131 := n3_; have HB := n4_; clear n0_ n1_ n2_ n3_ n4_; (try clear hb); (try clear hb2); (try clear hk); (try clear hi); (try clear ho0); obtain ⟨Ao10, co10, eo10⟩ := Kd.N_slice HO134.out; subst eo10))
    go_loopg [14] k (fun kq v14 w' => ∃ (x14_1 : Int) (x132000_1 : Int) (x132001_1 : Int) (x132002_1 : ByteArray), v14 = .int .i64 x14_1 ∧ Aside0 (tree_Get.l0 kq a1 t132 (t132.length : Int) x14_1 = some (r1, r2, r3, r4, r5, r6)) ∧ Aside0 (kq ≤ k) ∧ Aside0 (Kd.N k92 92 w' w.heap.size (fun k_ => (P0_4_ k_ ∨ w.heap.size ≤ k_) ∧ k_ ≠ gb130 ∧ k_ ≠ gb131) (.slice Ao10 t132.length co10) t132) ∧ Aside0 (Kd.V k25 25 w' w.heap.size (fun k_ => (P0_4_ k_ ∨ w.heap.size ≤ k_) ∧ some k_ ≠ ((.slice Ao10 t132.length co10) : Value).ownBlock ∧ k_ ≠ gb130 ∧ k_ ≠ gb131) (.slice A0_4 l0_4.length c0_4) l0_4) ∧ Aside0 (w'.heap[gb130]? = some (.cells #[.int .i64 a0_0, .int .i64 a0_1, .string a0_2, (.slice A0_3 l0_3.length c0_3), (.slice A0_4 l0_4.length c0_4)] 25 (0, 0))) ∧ Aside0 (w'.heap[gb131]? = some (.cells #[.int .i64 x132000_1, .int .i64 x132001_1, .string x132002_1, (.slice none 0 0), (.slice none 0 0)] 25 (0, 0))) ∧ Aside0 (Below w.heap.size w w'))
    case atStart => exact ⟨(0), (0), (0), ((⟨#[]⟩ : ByteArray)), (by first | rfl | (simp; done) | (simp [*]; done)), (by first | with_reducible exact H' | exact H' | (subst_vars; exact H')), ⟨Nat.le_refl _⟩, ⟨by (with_reducible repeat (first | apply Kd.N_alloc | apply Kd.N_drewN | apply Kd.N_drew)); exact HO134.out⟩, ⟨by (with_reducible repeat (first | apply Kd.V_alloc | apply Kd.V_drewN | apply Kd.V_drew)); exact Kd.V_mono HO0_4.out (fun _ hk => ⟨hk.1.1.1, ⟨hk.2, ⟨hk.1.1.2, hk.1.2⟩⟩⟩)⟩, ⟨by (with_reducible repeat (first | refine blk_drewN ?_ _ | refine blk_drew ?_ | refine blk_alloc ?_ _)); exact BK130.out⟩, ⟨by (with_reducible repeat (first | refine blk_drewN ?_ _ | refine blk_drew ?_ | refine blk_alloc ?_ _)); exact BK131.out⟩, ⟨by repeat (first | (with_reducible first | exact HB.out | apply below_alloc | apply pw_below_drewN | apply below_drew1 | refine below_set ?_ GE130.out | refine below_set ?_ GE131.out) | exact HB.out)⟩⟩
    case round =>
      clear H'
      try clear p2
      try clear c3
      try clear c3b0
      try clear c3b1
      try clear c6
      try clear c7
      try clear hcz8_0
      try clear hcz8_1
      try clear hcz8_2
      try clear hcz8_3
      try clear hcz8_4
      try clear hfz8_0
      try clear hfz8_1
      try clear hfz8_2
      try clear hfz8_3
      try clear hfz8_4
      obtain ⟨x14_1, x132000_1, x132001_1, x132002_1, rfl, HA, HK1, HO_12, HO_131004, BK130, BK131, HB⟩ := hrel
      cases gk with
      | zero => exact absurd HA.out (by simp [tree_Get.l0])
      | succ k1 =>
        have H := HA.out
        clear HA
        simp only [tree_Get.l0] at H
        by_cases c11 : x14_1 < (t132.length : Int)
        · rw [if_pos c11] at H
          have c11b0 : decide (x14_1 < (t132.length : Int)) = true := decide_eq_true c11
          clear c11
          by_cases c12 : 0 ≤ x14_1
          · rw [if_pos c12] at H
            have c12b0 : decide (0 ≤ x14_1) = true := decide_eq_true c12
            clear c12
            by_cases c13 : x14_1 < (t132.length : Int)
            · rw [if_pos c13] at H
              have c13b0 : decide (x14_1 < (t132.length : Int)) = true := decide_eq_true c13
              clear c13
              by_cases c14 : ((rd_T92 t132 x14_1).f0).toList = a1.toList
              · rw [if_pos c14] at H
                have c14b0 : (((rd_T92 t132 x14_1).f0).toList == a1.toList) = true := beq_iff_eq.mpr c14
                have c14b1 : (((rd_T92 t132 x14_1).f0).toList != a1.toList) = false := bne_eq_false_iff_eq.mpr c14
                clear c14
                simp only [Option.some.injEq, Prod.mk.injEq] at H
                obtain ⟨rfl, rfl, rfl, rfl, rfl, rfl⟩ := H
                have p135 : 0 ≤ (x14_1 : Int) := of_decide_eq_true (by first | (with_reducible assumption) | assumption)
                have q135 : x14_1 < (t132.length : Int) := of_decide_eq_true (by first | (with_reducible assumption) | assumption)
                obtain ⟨ad135, A135_4, c135_4, A135_5, c135_5, e135, hx135_0, hx135_1, hx135_2, hx135_3, hx135_4, hx135_5, hl135_4, hi135_4, hl135_5, hi135_5⟩ := at_T92 (Kd.N_reads' HO_12.out).2.2 x14_1 p135 q135
                cases e135
                obtain ⟨ce135, hce135, hMe135, hcc135⟩ := Kd.N_get HO_12.out z92 x14_1 p135 (by first | exact q135 | exact of_decide_eq_true (by first | (with_reducible assumption) | assumption) | (have e_ := (Kd.N_reads' HO_12.out).1; omega))
                obtain ⟨ua135_4, uc135_4, ua135_5, uc135_5, rfl, ul135_4, ge135_4, ul135_5, ge135_5⟩ := k92_openF hMe135
                have hv135_4 := hcc135 4 _ rfl
                rw [add_field _ _ 4 (by omega)] at hv135_4
                replace hv135_4 := Option.some.inj (hv135_4.symm.trans hx135_4)
                injection hv135_4 with hva_ hvn_ hvc_
                rw [hva_] at ge135_4
                rw [hvc_] at ul135_4
                have HL135_4 := Aside0.mk (show Kd.V Kd.string 9 _ w.heap.size _ _ ((rd_T92 t132 x14_1).f1.f3) from Kd.V_mk ul135_4 ge135_4)
                clear hva_ hvn_ hvc_ ge135_4 ul135_4
                have hv135_5 := hcc135 5 _ rfl
                rw [add_field _ _ 5 (by omega)] at hv135_5
                replace hv135_5 := Option.some.inj (hv135_5.symm.trans hx135_5)
                injection hv135_5 with hva_ hvn_ hvc_
                rw [hva_] at ge135_5
                rw [hvc_] at ul135_5
                have HL135_5 := Aside0.mk (show Kd.V k25 25 _ w.heap.size _ _ ((rd_T92 t132 x14_1).f1.f4) from Kd.V_mk ul135_5 ge135_5)
                clear hva_ hvn_ hvc_ ge135_5 ul135_5
                clear hcc135 hce135
                have HR135_4 := Aside0.mk hi135_4
                have HC135_4 := Aside0.mk hl135_4
                clear hi135_4 hl135_4
                have HR135_5 := Aside0.mk hi135_5
                have HC135_5 := Aside0.mk hl135_5
                clear hi135_5 hl135_5
                replace p135 := eq_true p135
                replace q135 := eq_true q135
                go_wp2_with (first | ((with_reducible refine gate_dst (N := 7) rfl ?_); refine box_event ?hg (N := 7) ?hd (cs := #[.string (⟨#[]⟩ : ByteArray), .int .i64 0, .int .i64 0, .string (⟨#[]⟩ : ByteArray), .slice none 0 0, .slice none 0 0]) (t := 92) ?hr ?_; (case hd => rfl); (case hg => rfl); (case hr => first | (go_simp; done) | (go_simp; rfl)); intro gb136 hg w15 hbox hb; have n0_ := Aside0.mk (Kd.N_below (Kd.N_elderB (by (with_reducible repeat (first | apply Kd.N_alloc | apply Kd.N_drewN | apply Kd.N_drew)); exact HO_12.out) gb136 (Nat.le_of_eq hg.symm)) hb); have n1_ := Aside0.mk (Kd.V_below (Kd.V_elderB (by (with_reducible repeat (first | apply Kd.V_alloc | apply Kd.V_drewN | apply Kd.V_drew)); exact HO_131004.out) gb136 (Nat.le_of_eq hg.symm)) hb); have n2_ := Aside0.mk (Kd.V_below (Kd.V_elderB (by (with_reducible repeat (first | apply Kd.V_alloc | apply Kd.V_drewN | apply Kd.V_drew)); exact HL135_4.out) gb136 (Nat.le_of_eq hg.symm)) hb); have n3_ := Aside0.mk (Kd.V_below (Kd.V_elderB (by (with_reducible repeat (first | apply Kd.V_alloc | apply Kd.V_drewN | apply Kd.V_drew)); exact HL135_5.out) gb136 (Nat.le_of_eq hg.symm)) hb); have n4_ := Aside0.mk (blk_below (g := gb130) (o := .cells #[.int .i64 a0_0, .int .i64 a0_1, .string a0_2, .slice A0_3 l0_3.length c0_3, .slice A0_4 l0_4.length c0_4] 25 (0, 0)) (by (with_reducible repeat (first | refine blk_drewN ?_ _ | refine blk_drew ?_ | refine blk_alloc ?_ _)); exact BK130.out) hb); have n5_ := Aside0.mk (blk_below (g := gb131) (o := .cells #[.int .i64 x132000_1, .int .i64 x132001_1, .string x132002_1, .slice none 0 0, .slice none 0 0] 25 (0, 0)) (by (with_reducible repeat (first | refine blk_drewN ?_ _ | refine blk_drew ?_ | refine blk_alloc ?_ _)); exact BK131.out) hb); have n6_ := Aside0.mk (Kd.C_below (by repeat (first | (with_reducible exact HR135_4.out) | (with_reducible refine Kd.C_alloc ?_ _) | (with_reducible refine Kd.C_drewN ?_ _) | (with_reducible refine Kd.C_drew ?_) | exact HR135_4.out)) hb); have n7_ := Aside0.mk (Kd.C_below (by repeat (first | (with_reducible exact HR135_5.out) | (with_reducible refine Kd.C_alloc ?_ _) | (with_reducible refine Kd.C_drewN ?_ _) | (with_reducible refine Kd.C_drew ?_) | exact HR135_5.out)) hb); have n8_ := Aside0.mk (below_step (by repeat (first | (with_reducible first | exact HB.out | apply below_alloc | apply pw_below_drewN | apply below_drew1 | refine below_set ?_ GE130.out | refine below_set ?_ GE131.out) | exact HB.out)) hb); have n9_ := Aside0.mk (hbox); have n10_ := Aside0.mk ((by rw [hg]; exact (below_size (by repeat (first | (with_reducible first | exact HB.out | apply below_alloc | apply pw_below_drewN | apply below_drew1 | refine below_set ?_ GE130.out | refine below_set ?_ GE131.out) | exact HB.out))) : w.heap.size ≤ gb136)); have n11_ := Aside0.mk ((by rw [hg]; exact (below_size (by repeat (first | (with_reducible first | exact HB.out | apply below_alloc | apply pw_below_drewN | apply below_drew1 | refine below_set ?_ GE130.out | refine below_set ?_ GE131.out) | exact HB.out))) : w.heap.size ≤ gb136)); have n12_ := Aside0.mk ((by rw [hg]; exact Nat.ne_of_lt (blk_lt (g := gb130) (o := .cells #[.int .i64 a0_0, .int .i64 a0_1, .string a0_2, .slice A0_3 l0_3.length c0_3, .slice A0_4 l0_4.length c0_4] 25 (0, 0)) (by (with_reducible repeat (first | refine blk_drewN ?_ _ | refine blk_drew ?_ | refine blk_alloc ?_ _)); exact BK130.out)) : gb130 ≠ gb136)); have n13_ := Aside0.mk ((by rw [hg]; exact Nat.ne_of_gt (blk_lt (g := gb130) (o := .cells #[.int .i64 a0_0, .int .i64 a0_1, .string a0_2, .slice A0_3 l0_3.length c0_3, .slice A0_4 l0_4.length c0_4] 25 (0, 0)) (by (with_reducible repeat (first | refine blk_drewN ?_ _ | refine blk_drew ?_ | refine blk_alloc ?_ _)); exact BK130.out)) : gb136 ≠ gb130)); have n14_ := Aside0.mk ((by rw [hg]; exact Nat.ne_of_lt (blk_lt (g := gb131) (o := .cells #[.int .i64 x132000_1, .int .i64 x132001_1, .string x132002_1, .slice none 0 0, .slice none 0 0] 25 (0, 0)) (by (with_reducible repeat (first | refine blk_drewN ?_ _ | refine blk_drew ?_ | refine blk_alloc ?_ _)); exact BK131.out)) : gb131 ≠ gb136)); have n15_ := Aside0.mk ((by rw [hg]; exact Nat.ne_of_gt (blk_lt (g := gb131) (o := .cells #[.int .i64 x132000_1, .int .i64 x132001_1, .string x132002_1, .slice none 0 0, .slice none 0 0] 25 (0, 0)) (by (with_reducible repeat (first | refine blk_drewN ?_ _ | refine blk_drew ?_ | refine blk_alloc ?_ _)); exact BK131.out)) : gb136 ≠ gb131)); clear HO_12; clear HO_131004; clear HL135_4; clear HL135_5; clear BK130; clear BK131; clear HR135_4; clear HR135_5; clear HB; have HO_12 := n0_; have HO_131004 := n1_; have HL135_4 := n2_; have HL135_5 := n3_; have BK130 := n4_; have BK131 := n5_; have HR135_4 := n6_; have HR135_5 := n7_; have HB := n8_; have BK136 := n9_; have GW136 := n10_; have GE136 := n11_; have NB130_136 := n12_; have NB136_130 := n13_; have NB131_136 := n14_; have NB136_131 := n15_; clear n0_ n1_ n2_ n3_ n4_ n5_ n6_ n7_ n8_ n9_ n10_ n11_ n12_ n13_ n14_ n15_; clear hb hbox hg; have hnb16 := NB136_130.out; have hnc16 := NB130_136.out; have hnb17 := NB136_131.out; have hnc17 := NB131_136.out; have hcz18_0 : w15.cell? ⟨gb136, 0, none⟩ = some (.string (⟨#[]⟩ : ByteArray)) := (blk_cell BK136.out 0).trans rfl; have hcz18_1 : w15.cell? ⟨gb136, 1, none⟩ = some (.int .i64 0) := (blk_cell BK136.out 1).trans rfl; have hcz18_2 : w15.cell? ⟨gb136, 2, none⟩ = some (.int .i64 0) := (blk_cell BK136.out 2).trans rfl; have hcz18_3 : w15.cell? ⟨gb136, 3, none⟩ = some (.string (⟨#[]⟩ : ByteArray)) := (blk_cell BK136.out 3).trans rfl; have hcz18_4 : w15.cell? ⟨gb136, 4, none⟩ = some (.slice none 0 0) := (blk_cell BK136.out 4).trans rfl; have hcz18_5 : w15.cell? ⟨gb136, 5, none⟩ = some (.slice none 0 0) := (blk_cell BK136.out 5).trans rfl; have hfz18_0 := blk_frozen BK136.out 0; have hfz18_1 := blk_frozen BK136.out 1; have hfz18_2 := blk_frozen BK136.out 2; have hfz18_3 := blk_frozen BK136.out 3; have hfz18_4 := blk_frozen BK136.out 4; have hfz18_5 := blk_frozen BK136.out 5; have hnb19 := NB131_130.out; have hnc19 := NB130_131.out; have hcz20_0 : w15.cell? ⟨gb131, 0, none⟩ = some (.int .i64 x132000_1) := (blk_cell BK131.out 0).trans rfl; have hcz20_1 : w15.cell? ⟨gb131, 1, none⟩ = some (.int .i64 x132001_1) := (blk_cell BK131.out 1).trans rfl; have hcz20_2 : w15.cell? ⟨gb131, 2, none⟩ = some (.string x132002_1) := (blk_cell BK131.out 2).trans rfl; have hcz20_3 : w15.cell? ⟨gb131, 3, none⟩ = some (.slice none 0 0) := (blk_cell BK131.out 3).trans rfl; have hcz20_4 : w15.cell? ⟨gb131, 4, none⟩ = some (.slice none 0 0) := (blk_cell BK131.out 4).trans rfl; have hfz20_0 := blk_frozen BK131.out 0; have hfz20_1 := blk_frozen BK131.out 1; have hfz20_2 := blk_frozen BK131.out 2; have hfz20_3 := blk_frozen BK131.out 3; have hfz20_4 := blk_frozen BK131.out 4))
                refine bodyPost_ret (results_ct rfl _ _ gb131 25 #[.int .i64 ((rd_T92 t132 x14_1).f1.f0), .int .i64 ((rd_T92 t132 x14_1).f1.f1), .string ((rd_T92 t132 x14_1).f1.f2), .slice A135_4 ((rd_T92 t132 x14_1).f1.f3).length c135_4, .slice A135_5 ((rd_T92 t132 x14_1).f1.f4).length c135_5] (0, 0) _ rfl (by (with_reducible repeat (first | refine blk_drewN ?_ _ | refine blk_drew ?_ | refine blk_alloc ?_ _)); refine blk_put (cs := #[.int .i64 ((rd_T92 t132 x14_1).f1.f0), .int .i64 ((rd_T92 t132 x14_1).f1.f1), .string ((rd_T92 t132 x14_1).f1.f2), .slice A135_4 ((rd_T92 t132 x14_1).f1.f3).length c135_4, .slice none 0 0]) ?_ 4 _ rfl; (with_reducible repeat (first | refine blk_drewN ?_ _ | refine blk_drew ?_ | refine blk_alloc ?_ _)); refine blk_put (cs := #[.int .i64 ((rd_T92 t132 x14_1).f1.f0), .int .i64 ((rd_T92 t132 x14_1).f1.f1), .string ((rd_T92 t132 x14_1).f1.f2), .slice none 0 0, .slice none 0 0]) ?_ 3 _ rfl; (with_reducible repeat (first | refine blk_drewN ?_ _ | refine blk_drew ?_ | refine blk_alloc ?_ _)); refine blk_put (cs := #[.int .i64 ((rd_T92 t132 x14_1).f1.f0), .int .i64 ((rd_T92 t132 x14_1).f1.f1), .string x132002_1, .slice none 0 0, .slice none 0 0]) ?_ 2 _ rfl; (with_reducible repeat (first | refine blk_drewN ?_ _ | refine blk_drew ?_ | refine blk_alloc ?_ _)); refine blk_put (cs := #[.int .i64 ((rd_T92 t132 x14_1).f1.f0), .int .i64 x132001_1, .string x132002_1, .slice none 0 0, .slice none 0 0]) ?_ 1 _ rfl; (with_reducible repeat (first | refine blk_drewN ?_ _ | refine blk_drew ?_ | refine blk_alloc ?_ _)); refine blk_put (cs := #[.int .i64 x132000_1, .int .i64 x132001_1, .string x132002_1, .slice none 0 0, .slice none 0 0]) ?_ 0 _ rfl; (with_reducible repeat (first | refine blk_drewN ?_ _ | refine blk_drew ?_ | refine blk_alloc ?_ _)); refine blk_far ?_ NB131_136.out _; (with_reducible repeat (first | refine blk_drewN ?_ _ | refine blk_drew ?_ | refine blk_alloc ?_ _)); refine blk_far ?_ NB131_136.out _; (with_reducible repeat (first | refine blk_drewN ?_ _ | refine blk_drew ?_ | refine blk_alloc ?_ _)); refine blk_far ?_ NB131_136.out _; (with_reducible repeat (first | refine blk_drewN ?_ _ | refine blk_drew ?_ | refine blk_alloc ?_ _)); refine blk_far ?_ NB131_136.out _; (with_reducible repeat (first | refine blk_drewN ?_ _ | refine blk_drew ?_ | refine blk_alloc ?_ _)); refine blk_far ?_ NB131_136.out _; (with_reducible repeat (first | refine blk_drewN ?_ _ | refine blk_drew ?_ | refine blk_alloc ?_ _)); refine blk_far ?_ NB131_136.out _; (with_reducible repeat (first | refine blk_drewN ?_ _ | refine blk_drew ?_ | refine blk_alloc ?_ _)); exact BK131.out) Try.underlying25 rfl (by kernel_rfl)) rfl ?_
                exact ⟨_, _, by first | rfl | (simp [errW_none, errW_some] <;> rfl) | (simp [*, errW_none, errW_some] <;> rfl), by (with_reducible repeat (first | apply Kd.V_alloc | apply Kd.V_drewN | apply Kd.V_drew)); exact Kd.V_mono (Kd.V_far (p := ⟨gb131, 4, none⟩) (Kd.V_far (p := ⟨gb131, 3, none⟩) (Kd.V_far (p := ⟨gb131, 2, none⟩) (Kd.V_far (p := ⟨gb131, 1, none⟩) (Kd.V_far (p := ⟨gb131, 0, none⟩) (Kd.V_far (p := ⟨gb136, 5, none⟩) (Kd.V_far (p := ⟨gb136, 4, none⟩) (Kd.V_far (p := ⟨gb136, 3, none⟩) (Kd.V_far (p := ⟨gb136, 2, none⟩) (Kd.V_far (p := ⟨gb136, 1, none⟩) (Kd.V_far (p := ⟨gb136, 0, none⟩) (Kd.V_mono (Kd.V_mono HL135_4.out (fun k_ hk => (⟨hk, hk.2⟩ : _ ∧ k_ ≠ gb136))) (fun k_ hk => (⟨hk, hk.1.1.1.2.2⟩ : _ ∧ k_ ≠ gb131))) (fun _ hk => hk.1.2) (.string ((rd_T92 t132 x14_1).f0))) (fun _ hk => hk.1.2) (.int .i64 ((rd_T92 t132 x14_1).f1.f0))) (fun _ hk => hk.1.2) (.int .i64 ((rd_T92 t132 x14_1).f1.f1))) (fun _ hk => hk.1.2) (.string ((rd_T92 t132 x14_1).f1.f2))) (fun _ hk => hk.1.2) (.slice A135_4 ((rd_T92 t132 x14_1).f1.f3).length c135_4)) (fun _ hk => hk.1.2) (.slice A135_5 ((rd_T92 t132 x14_1).f1.f4).length c135_5)) (fun _ hk => hk.2) (.int .i64 ((rd_T92 t132 x14_1).f1.f0))) (fun _ hk => hk.2) (.int .i64 ((rd_T92 t132 x14_1).f1.f1))) (fun _ hk => hk.2) (.string ((rd_T92 t132 x14_1).f1.f2))) (fun _ hk => hk.2) (.slice A135_4 ((rd_T92 t132 x14_1).f1.f3).length c135_4)) (fun _ hk => hk.2) (.slice A135_5 ((rd_T92 t132 x14_1).f1.f4).length c135_5)) (fun _ hk => hk.1.1.1.1.1), by (with_reducible repeat (first | apply Kd.V_alloc | apply Kd.V_drewN | apply Kd.V_drew)); exact Kd.V_mono (Kd.V_far (p := ⟨gb131, 4, none⟩) (Kd.V_far (p := ⟨gb131, 3, none⟩) (Kd.V_far (p := ⟨gb131, 2, none⟩) (Kd.V_far (p := ⟨gb131, 1, none⟩) (Kd.V_far (p := ⟨gb131, 0, none⟩) (Kd.V_far (p := ⟨gb136, 5, none⟩) (Kd.V_far (p := ⟨gb136, 4, none⟩) (Kd.V_far (p := ⟨gb136, 3, none⟩) (Kd.V_far (p := ⟨gb136, 2, none⟩) (Kd.V_far (p := ⟨gb136, 1, none⟩) (Kd.V_far (p := ⟨gb136, 0, none⟩) (Kd.V_mono (Kd.V_mono HL135_5.out (fun k_ hk => (⟨hk, hk.2⟩ : _ ∧ k_ ≠ gb136))) (fun k_ hk => (⟨hk, hk.1.1.1.2.2⟩ : _ ∧ k_ ≠ gb131))) (fun _ hk => hk.1.2) (.string ((rd_T92 t132 x14_1).f0))) (fun _ hk => hk.1.2) (.int .i64 ((rd_T92 t132 x14_1).f1.f0))) (fun _ hk => hk.1.2) (.int .i64 ((rd_T92 t132 x14_1).f1.f1))) (fun _ hk => hk.1.2) (.string ((rd_T92 t132 x14_1).f1.f2))) (fun _ hk => hk.1.2) (.slice A135_4 ((rd_T92 t132 x14_1).f1.f3).length c135_4)) (fun _ hk => hk.1.2) (.slice A135_5 ((rd_T92 t132 x14_1).f1.f4).length c135_5)) (fun _ hk => hk.2) (.int .i64 ((rd_T92 t132 x14_1).f1.f0))) (fun _ hk => hk.2) (.int .i64 ((rd_T92 t132 x14_1).f1.f1))) (fun _ hk => hk.2) (.string ((rd_T92 t132 x14_1).f1.f2))) (fun _ hk => hk.2) (.slice A135_4 ((rd_T92 t132 x14_1).f1.f3).length c135_4)) (fun _ hk => hk.2) (.slice A135_5 ((rd_T92 t132 x14_1).f1.f4).length c135_5)) (fun _ hk => hk.1.1.1.1.1), by repeat (first | (with_reducible first | exact HB.out | apply below_alloc | apply pw_below_drewN | apply below_drew1 | refine below_set ?_ GE130.out | refine below_set ?_ GE131.out | refine below_set ?_ GE136.out) | exact HB.out)⟩
              · rw [if_neg c14] at H
                have c14b0 : (((rd_T92 t132 x14_1).f0).toList == a1.toList) = false := beq_eq_false_iff_ne.mpr c14
                have c14b1 : (((rd_T92 t132 x14_1).f0).toList != a1.toList) = true := bne_iff_ne.mpr c14
                have H' := Aside0.mk H
                clear H
                have p135 : 0 ≤ (x14_1 : Int) := of_decide_eq_true (by first | (with_reducible assumption) | assumption)
                have q135 : x14_1 < (t132.length : Int) := of_decide_eq_true (by first | (with_reducible assumption) | assumption)
                obtain ⟨ad135, A135_4, c135_4, A135_5, c135_5, e135, hx135_0, hx135_1, hx135_2, hx135_3, hx135_4, hx135_5, hl135_4, hi135_4, hl135_5, hi135_5⟩ := at_T92 (Kd.N_reads' HO_12.out).2.2 x14_1 p135 q135
                cases e135
                obtain ⟨ce135, hce135, hMe135, hcc135⟩ := Kd.N_get HO_12.out z92 x14_1 p135 (by first | exact q135 | exact of_decide_eq_true (by first | (with_reducible assumption) | assumption) | (have e_ := (Kd.N_reads' HO_12.out).1; omega))
                obtain ⟨ua135_4, uc135_4, ua135_5, uc135_5, rfl, ul135_4, ge135_4, ul135_5, ge135_5⟩ := k92_openF hMe135
                have hv135_4 := hcc135 4 _ rfl
                rw [add_field _ _ 4 (by omega)] at hv135_4
                replace hv135_4 := Option.some.inj (hv135_4.symm.trans hx135_4)
                injection hv135_4 with hva_ hvn_ hvc_
                rw [hva_] at ge135_4
                rw [hvc_] at ul135_4
                have HL135_4 := Aside0.mk (show Kd.V Kd.string 9 _ w.heap.size _ _ ((rd_T92 t132 x14_1).f1.f3) from Kd.V_mk ul135_4 ge135_4)
                clear hva_ hvn_ hvc_ ge135_4 ul135_4
                have hv135_5 := hcc135 5 _ rfl
                rw [add_field _ _ 5 (by omega)] at hv135_5
                replace hv135_5 := Option.some.inj (hv135_5.symm.trans hx135_5)
                injection hv135_5 with hva_ hvn_ hvc_
                rw [hva_] at ge135_5
                rw [hvc_] at ul135_5
                have HL135_5 := Aside0.mk (show Kd.V k25 25 _ w.heap.size _ _ ((rd_T92 t132 x14_1).f1.f4) from Kd.V_mk ul135_5 ge135_5)
                clear hva_ hvn_ hvc_ ge135_5 ul135_5
                clear hcc135 hce135
                have HR135_4 := Aside0.mk hi135_4
                have HC135_4 := Aside0.mk hl135_4
                clear hi135_4 hl135_4
                have HR135_5 := Aside0.mk hi135_5
                have HC135_5 := Aside0.mk hl135_5
                clear hi135_5 hl135_5
                replace p135 := eq_true p135
                replace q135 := eq_true q135
                go_wp2_with (first | ((with_reducible refine gate_dst (N := 7) rfl ?_); refine box_event ?hg (N := 7) ?hd (cs := #[.string (⟨#[]⟩ : ByteArray), .int .i64 0, .int .i64 0, .string (⟨#[]⟩ : ByteArray), .slice none 0 0, .slice none 0 0]) (t := 92) ?hr ?_; (case hd => rfl); (case hg => rfl); (case hr => first | (go_simp; done) | (go_simp; rfl)); intro gb136 hg w21 hbox hb; have n0_ := Aside0.mk (Kd.N_below (Kd.N_elderB (by (with_reducible repeat (first | apply Kd.N_alloc | apply Kd.N_drewN | apply Kd.N_drew)); exact HO_12.out) gb136 (Nat.le_of_eq hg.symm)) hb); have n1_ := Aside0.mk (Kd.V_below (Kd.V_elderB (by (with_reducible repeat (first | apply Kd.V_alloc | apply Kd.V_drewN | apply Kd.V_drew)); exact HO_131004.out) gb136 (Nat.le_of_eq hg.symm)) hb); have n2_ := Aside0.mk (Kd.V_below (Kd.V_elderB (by (with_reducible repeat (first | apply Kd.V_alloc | apply Kd.V_drewN | apply Kd.V_drew)); exact HL135_4.out) gb136 (Nat.le_of_eq hg.symm)) hb); have n3_ := Aside0.mk (Kd.V_below (Kd.V_elderB (by (with_reducible repeat (first | apply Kd.V_alloc | apply Kd.V_drewN | apply Kd.V_drew)); exact HL135_5.out) gb136 (Nat.le_of_eq hg.symm)) hb); have n4_ := Aside0.mk (blk_below (g := gb130) (o := .cells #[.int .i64 a0_0, .int .i64 a0_1, .string a0_2, .slice A0_3 l0_3.length c0_3, .slice A0_4 l0_4.length c0_4] 25 (0, 0)) (by (with_reducible repeat (first | refine blk_drewN ?_ _ | refine blk_drew ?_ | refine blk_alloc ?_ _)); exact BK130.out) hb); have n5_ := Aside0.mk (blk_below (g := gb131) (o := .cells #[.int .i64 x132000_1, .int .i64 x132001_1, .string x132002_1, .slice none 0 0, .slice none 0 0] 25 (0, 0)) (by (with_reducible repeat (first | refine blk_drewN ?_ _ | refine blk_drew ?_ | refine blk_alloc ?_ _)); exact BK131.out) hb); have n6_ := Aside0.mk (Kd.C_below (by repeat (first | (with_reducible exact HR135_4.out) | (with_reducible refine Kd.C_alloc ?_ _) | (with_reducible refine Kd.C_drewN ?_ _) | (with_reducible refine Kd.C_drew ?_) | exact HR135_4.out)) hb); have n7_ := Aside0.mk (Kd.C_below (by repeat (first | (with_reducible exact HR135_5.out) | (with_reducible refine Kd.C_alloc ?_ _) | (with_reducible refine Kd.C_drewN ?_ _) | (with_reducible refine Kd.C_drew ?_) | exact HR135_5.out)) hb); have n8_ := Aside0.mk (below_step (by repeat (first | (with_reducible first | exact HB.out | apply below_alloc | apply pw_below_drewN | apply below_drew1 | refine below_set ?_ GE130.out | refine below_set ?_ GE131.out) | exact HB.out)) hb); have n9_ := Aside0.mk (hbox); have n10_ := Aside0.mk ((by rw [hg]; exact (below_size (by repeat (first | (with_reducible first | exact HB.out | apply below_alloc | apply pw_below_drewN | apply below_drew1 | refine below_set ?_ GE130.out | refine below_set ?_ GE131.out) | exact HB.out))) : w.heap.size ≤ gb136)); have n11_ := Aside0.mk ((by rw [hg]; exact (below_size (by repeat (first | (with_reducible first | exact HB.out | apply below_alloc | apply pw_below_drewN | apply below_drew1 | refine below_set ?_ GE130.out | refine below_set ?_ GE131.out) | exact HB.out))) : w.heap.size ≤ gb136)); have n12_ := Aside0.mk ((by rw [hg]; exact Nat.ne_of_lt (blk_lt (g := gb130) (o := .cells #[.int .i64 a0_0, .int .i64 a0_1, .string a0_2, .slice A0_3 l0_3.length c0_3, .slice A0_4 l0_4.length c0_4] 25 (0, 0)) (by (with_reducible repeat (first | refine blk_drewN ?_ _ | refine blk_drew ?_ | refine blk_alloc ?_ _)); exact BK130.out)) : gb130 ≠ gb136)); have n13_ := Aside0.mk ((by rw [hg]; exact Nat.ne_of_gt (blk_lt (g := gb130) (o := .cells #[.int .i64 a0_0, .int .i64 a0_1, .string a0_2, .slice A0_3 l0_3.length c0_3, .slice A0_4 l0_4.length c0_4] 25 (0, 0)) (by (with_reducible repeat (first | refine blk_drewN ?_ _ | refine blk_drew ?_ | refine blk_alloc ?_ _)); exact BK130.out)) : gb136 ≠ gb130)); have n14_ := Aside0.mk ((by rw [hg]; exact Nat.ne_of_lt (blk_lt (g := gb131) (o := .cells #[.int .i64 x132000_1, .int .i64 x132001_1, .string x132002_1, .slice none 0 0, .slice none 0 0] 25 (0, 0)) (by (with_reducible repeat (first | refine blk_drewN ?_ _ | refine blk_drew ?_ | refine blk_alloc ?_ _)); exact BK131.out)) : gb131 ≠ gb136)); have n15_ := Aside0.mk ((by rw [hg]; exact Nat.ne_of_gt (blk_lt (g := gb131) (o := .cells #[.int .i64 x132000_1, .int .i64 x132001_1, .string x132002_1, .slice none 0 0, .slice none 0 0] 25 (0, 0)) (by (with_reducible repeat (first | refine blk_drewN ?_ _ | refine blk_drew ?_ | refine blk_alloc ?_ _)); exact BK131.out)) : gb136 ≠ gb131)); clear HO_12; clear HO_131004; clear HL135_4; clear HL135_5; clear BK130; clear BK131; clear HR135_4; clear HR135_5; clear HB; have HO_12 := n0_; have HO_131004 := n1_; have HL135_4 := n2_; have HL135_5 := n3_; have BK130 := n4_; have BK131 := n5_; have HR135_4 := n6_; have HR135_5 := n7_; have HB := n8_; have BK136 := n9_; have GW136 := n10_; have GE136 := n11_; have NB130_136 := n12_; have NB136_130 := n13_; have NB131_136 := n14_; have NB136_131 := n15_; clear n0_ n1_ n2_ n3_ n4_ n5_ n6_ n7_ n8_ n9_ n10_ n11_ n12_ n13_ n14_ n15_; clear hb hbox hg; have hnb22 := NB136_130.out; have hnc22 := NB130_136.out; have hnb23 := NB136_131.out; have hnc23 := NB131_136.out; have hcz24_0 : w21.cell? ⟨gb136, 0, none⟩ = some (.string (⟨#[]⟩ : ByteArray)) := (blk_cell BK136.out 0).trans rfl; have hcz24_1 : w21.cell? ⟨gb136, 1, none⟩ = some (.int .i64 0) := (blk_cell BK136.out 1).trans rfl; have hcz24_2 : w21.cell? ⟨gb136, 2, none⟩ = some (.int .i64 0) := (blk_cell BK136.out 2).trans rfl; have hcz24_3 : w21.cell? ⟨gb136, 3, none⟩ = some (.string (⟨#[]⟩ : ByteArray)) := (blk_cell BK136.out 3).trans rfl; have hcz24_4 : w21.cell? ⟨gb136, 4, none⟩ = some (.slice none 0 0) := (blk_cell BK136.out 4).trans rfl; have hcz24_5 : w21.cell? ⟨gb136, 5, none⟩ = some (.slice none 0 0) := (blk_cell BK136.out 5).trans rfl; have hfz24_0 := blk_frozen BK136.out 0; have hfz24_1 := blk_frozen BK136.out 1; have hfz24_2 := blk_frozen BK136.out 2; have hfz24_3 := blk_frozen BK136.out 3; have hfz24_4 := blk_frozen BK136.out 4; have hfz24_5 := blk_frozen BK136.out 5))
                go_roundg k1
                case measure => have := HK1.out; omega
                case rel => exact ⟨(wrap64 (x14_1 + 1)), (x132000_1), (x132001_1), (x132002_1), (by first | rfl | (simp; done) | (simp [*]; done)), (by first | with_reducible exact H' | exact H' | (subst_vars; exact H')), ⟨by have := HK1.out; omega⟩, ⟨by (with_reducible repeat (first | apply Kd.N_alloc | apply Kd.N_drewN | apply Kd.N_drew)); exact Kd.N_mono (Kd.N_far (p := ⟨gb136, 5, none⟩) (Kd.N_far (p := ⟨gb136, 4, none⟩) (Kd.N_far (p := ⟨gb136, 3, none⟩) (Kd.N_far (p := ⟨gb136, 2, none⟩) (Kd.N_far (p := ⟨gb136, 1, none⟩) (Kd.N_far (p := ⟨gb136, 0, none⟩) (Kd.N_mono HO_12.out (fun k_ hk => (⟨hk, hk.2⟩ : _ ∧ k_ ≠ gb136))) (fun _ hk => hk.2) (.string ((rd_T92 t132 x14_1).f0))) (fun _ hk => hk.2) (.int .i64 ((rd_T92 t132 x14_1).f1.f0))) (fun _ hk => hk.2) (.int .i64 ((rd_T92 t132 x14_1).f1.f1))) (fun _ hk => hk.2) (.string ((rd_T92 t132 x14_1).f1.f2))) (fun _ hk => hk.2) (.slice A135_4 ((rd_T92 t132 x14_1).f1.f3).length c135_4)) (fun _ hk => hk.2) (.slice A135_5 ((rd_T92 t132 x14_1).f1.f4).length c135_5)) (fun _ hk => ⟨hk.1.1.1, ⟨hk.1.1.2.1, hk.1.1.2.2⟩⟩)⟩, ⟨by (with_reducible repeat (first | apply Kd.V_alloc | apply Kd.V_drewN | apply Kd.V_drew)); exact Kd.V_mono (Kd.V_far (p := ⟨gb136, 5, none⟩) (Kd.V_far (p := ⟨gb136, 4, none⟩) (Kd.V_far (p := ⟨gb136, 3, none⟩) (Kd.V_far (p := ⟨gb136, 2, none⟩) (Kd.V_far (p := ⟨gb136, 1, none⟩) (Kd.V_far (p := ⟨gb136, 0, none⟩) (Kd.V_mono HO_131004.out (fun k_ hk => (⟨hk, hk.2⟩ : _ ∧ k_ ≠ gb136))) (fun _ hk => hk.2) (.string ((rd_T92 t132 x14_1).f0))) (fun _ hk => hk.2) (.int .i64 ((rd_T92 t132 x14_1).f1.f0))) (fun _ hk => hk.2) (.int .i64 ((rd_T92 t132 x14_1).f1.f1))) (fun _ hk => hk.2) (.string ((rd_T92 t132 x14_1).f1.f2))) (fun _ hk => hk.2) (.slice A135_4 ((rd_T92 t132 x14_1).f1.f3).length c135_4)) (fun _ hk => hk.2) (.slice A135_5 ((rd_T92 t132 x14_1).f1.f4).length c135_5)) (fun _ hk => ⟨hk.1.1.1, ⟨hk.1.1.2.1, ⟨hk.1.1.2.2.1, hk.1.1.2.2.2⟩⟩⟩)⟩, ⟨by (with_reducible repeat (first | refine blk_drewN ?_ _ | refine blk_drew ?_ | refine blk_alloc ?_ _)); refine blk_far ?_ NB130_136.out _; (with_reducible repeat (first | refine blk_drewN ?_ _ | refine blk_drew ?_ | refine blk_alloc ?_ _)); refine blk_far ?_ NB130_136.out _; (with_reducible repeat (first | refine blk_drewN ?_ _ | refine blk_drew ?_ | refine blk_alloc ?_ _)); refine blk_far ?_ NB130_136.out _; (with_reducible repeat (first | refine blk_drewN ?_ _ | refine blk_drew ?_ | refine blk_alloc ?_ _)); refine blk_far ?_ NB130_136.out _; (with_reducible repeat (first | refine blk_drewN ?_ _ | refine blk_drew ?_ | refine blk_alloc ?_ _)); refine blk_far ?_ NB130_136.out _; (with_reducible repeat (first | refine blk_drewN ?_ _ | refine blk_drew ?_ | refine blk_alloc ?_ _)); refine blk_far ?_ NB130_136.out _; (with_reducible repeat (first | refine blk_drewN ?_ _ | refine blk_drew ?_ | refine blk_alloc ?_ _)); exact BK130.out⟩, ⟨by (with_reducible repeat (first | refine blk_drewN ?_ _ | refine blk_drew ?_ | refine blk_alloc ?_ _)); refine blk_far ?_ NB131_136.out _; (with_reducible repeat (first | refine blk_drewN ?_ _ | refine blk_drew ?_ | refine blk_alloc ?_ _)); refine blk_far ?_ NB131_136.out _; (with_reducible repeat (first | refine blk_drewN ?_ _ | refine blk_drew ?_ | refine blk_alloc ?_ _)); refine blk_far ?_ NB131_136.out _; (with_reducible repeat (first | refine blk_drewN ?_ _ | refine blk_drew ?_ | refine blk_alloc ?_ _)); refine blk_far ?_ NB131_136.out _; (with_reducible repeat (first | refine blk_drewN ?_ _ | refine blk_drew ?_ | refine blk_alloc ?_ _)); refine blk_far ?_ NB131_136.out _; (with_reducible repeat (first | refine blk_drewN ?_ _ | refine blk_drew ?_ | refine blk_alloc ?_ _)); refine blk_far ?_ NB131_136.out _; (with_reducible repeat (first | refine blk_drewN ?_ _ | refine blk_drew ?_ | refine blk_alloc ?_ _)); exact BK131.out⟩, ⟨by repeat (first | (with_reducible first | exact HB.out | apply below_alloc | apply pw_below_drewN | apply below_drew1 | refine below_set ?_ GE130.out | refine below_set ?_ GE131.out | refine below_set ?_ GE136.out) | exact HB.out)⟩⟩
            · rw [if_neg c13] at H
              exact absurd H (by simp)
          · rw [if_neg c12] at H
            exact absurd H (by simp)
        · rw [if_neg c11] at H
          have c11b0 : decide (x14_1 < (t132.length : Int)) = false := decide_eq_false c11
          clear c11
          simp only [Option.some.injEq, Prod.mk.injEq] at H
          obtain ⟨rfl, rfl, rfl, rfl, rfl, rfl⟩ := H
          have hnb25 := NB131_130.out
          have hnc25 := NB130_131.out
          have hcz26_0 : wr.cell? ⟨gb131, 0, none⟩ = some (.int .i64 x132000_1) := (blk_cell BK131.out 0).trans rfl
          have hcz26_1 : wr.cell? ⟨gb131, 1, none⟩ = some (.int .i64 x132001_1) := (blk_cell BK131.out 1).trans rfl
          have hcz26_2 : wr.cell? ⟨gb131, 2, none⟩ = some (.string x132002_1) := (blk_cell BK131.out 2).trans rfl
          have hcz26_3 : wr.cell? ⟨gb131, 3, none⟩ = some (.slice none 0 0) := (blk_cell BK131.out 3).trans rfl
          have hcz26_4 : wr.cell? ⟨gb131, 4, none⟩ = some (.slice none 0 0) := (blk_cell BK131.out 4).trans rfl
          have hfz26_0 := blk_frozen BK131.out 0
          have hfz26_1 := blk_frozen BK131.out 1
          have hfz26_2 := blk_frozen BK131.out 2
          have hfz26_3 := blk_frozen BK131.out 3
          have hfz26_4 := blk_frozen BK131.out 4
          go_wp2
          refine bodyPost_ret (results_ct rfl _ _ gb131 25 #[.int .i64 0, .int .i64 0, .string (⟨#[]⟩ : ByteArray), .slice none 0 0, .slice none 0 0] (0, 0) _ rfl (by (with_reducible repeat (first | refine blk_drewN ?_ _ | refine blk_drew ?_ | refine blk_alloc ?_ _)); refine blk_put (cs := #[.int .i64 0, .int .i64 0, .string (⟨#[]⟩ : ByteArray), .slice none 0 0, .slice none 0 0]) ?_ 4 _ rfl; (with_reducible repeat (first | refine blk_drewN ?_ _ | refine blk_drew ?_ | refine blk_alloc ?_ _)); refine blk_put (cs := #[.int .i64 0, .int .i64 0, .string (⟨#[]⟩ : ByteArray), .slice none 0 0, .slice none 0 0]) ?_ 3 _ rfl; (with_reducible repeat (first | refine blk_drewN ?_ _ | refine blk_drew ?_ | refine blk_alloc ?_ _)); refine blk_put (cs := #[.int .i64 0, .int .i64 0, .string x132002_1, .slice none 0 0, .slice none 0 0]) ?_ 2 _ rfl; (with_reducible repeat (first | refine blk_drewN ?_ _ | refine blk_drew ?_ | refine blk_alloc ?_ _)); refine blk_put (cs := #[.int .i64 0, .int .i64 x132001_1, .string x132002_1, .slice none 0 0, .slice none 0 0]) ?_ 1 _ rfl; (with_reducible repeat (first | refine blk_drewN ?_ _ | refine blk_drew ?_ | refine blk_alloc ?_ _)); refine blk_put (cs := #[.int .i64 x132000_1, .int .i64 x132001_1, .string x132002_1, .slice none 0 0, .slice none 0 0]) ?_ 0 _ rfl; (with_reducible repeat (first | refine blk_drewN ?_ _ | refine blk_drew ?_ | refine blk_alloc ?_ _)); exact BK131.out) Try.underlying25 rfl (by kernel_rfl)) rfl ?_
          exact ⟨_, _, by first | rfl | (simp [errW_none, errW_some] <;> rfl) | (simp [*, errW_none, errW_some] <;> rfl), (by exact Kd.V_nil _ _ _ _ _), (by exact Kd.V_nil _ _ _ _ _), by repeat (first | (with_reducible first | exact HB.out | apply below_alloc | apply pw_below_drewN | apply below_drew1 | refine below_set ?_ GE130.out | refine below_set ?_ GE131.out) | exact HB.out)⟩
  · rw [if_neg c3] at H
    have c3b0 : (a0_0 == 6) = false := beq_eq_false_iff_ne.mpr c3
    have c3b1 : (a0_0 != 6) = true := bne_iff_ne.mpr c3
    simp only [Option.some.injEq, Prod.mk.injEq] at H
    obtain ⟨rfl, rfl, rfl, rfl, rfl, rfl⟩ := H
    go_enter Try.func30, Try.ntmps30
    go_wp2_with (first | ((with_reducible refine gate_dst (N := 2) rfl ?_); refine box_event ?hg (N := 2) ?hd (cs := #[.int .i64 a0_0, .int .i64 a0_1, .string a0_2, .slice A0_3 l0_3.length c0_3, .slice A0_4 l0_4.length c0_4]) (t := 25) ?hr ?_; (case hd => rfl); (case hg => rfl); (case hr => first | (go_simp; done) | (go_simp; rfl)); intro gb130 hg w27 hbox hb; have n0_ := Aside0.mk (Kd.V_below (Kd.V_elderB (by (with_reducible repeat (first | apply Kd.V_alloc | apply Kd.V_drewN | apply Kd.V_drew)); exact HO0_4.out) gb130 (Nat.le_of_eq hg.symm)) hb); have n1_ := Aside0.mk (below_step (by repeat (first | (with_reducible first | exact HB.out | apply below_alloc | apply pw_below_drewN | apply below_drew1) | exact HB.out)) hb); have n2_ := Aside0.mk (hbox); have n3_ := Aside0.mk ((by rw [hg]; exact (below_size (by repeat (first | (with_reducible first | exact HB.out | apply below_alloc | apply pw_below_drewN | apply below_drew1) | exact HB.out))) : w.heap.size ≤ gb130)); have n4_ := Aside0.mk ((by rw [hg]; exact (below_size (by repeat (first | (with_reducible first | exact HB.out | apply below_alloc | apply pw_below_drewN | apply below_drew1) | exact HB.out))) : w.heap.size ≤ gb130)); clear HO0_4; clear HB; have HO0_4 := n0_; have HB := n1_; have BK130 := n2_; have GW130 := n3_; have GE130 := n4_; clear n0_ n1_ n2_ n3_ n4_; clear hb hbox hg) | ((with_reducible refine gate_dst (N := 4) rfl ?_); refine box_event ?hg (N := 4) ?hd (cs := #[.int .i64 0, .int .i64 0, .string (⟨#[]⟩ : ByteArray), .slice none 0 0, .slice none 0 0]) (t := 25) ?hr ?_; (case hd => rfl); (case hg => rfl); (case hr => first | (go_simp; done) | (go_simp; rfl)); intro gb131 hg w28 hbox hb; have n0_ := Aside0.mk (Kd.V_below (Kd.V_elderB (by (with_reducible repeat (first | apply Kd.V_alloc | apply Kd.V_drewN | apply Kd.V_drew)); exact HO0_4.out) gb131 (Nat.le_of_eq hg.symm)) hb); have n1_ := Aside0.mk (blk_below (g := gb130) (o := .cells #[.int .i64 a0_0, .int .i64 a0_1, .string a0_2, .slice A0_3 l0_3.length c0_3, .slice A0_4 l0_4.length c0_4] 25 (0, 0)) (by (with_reducible repeat (first | refine blk_drewN ?_ _ | refine blk_drew ?_ | refine blk_alloc ?_ _)); exact BK130.out) hb); have n2_ := Aside0.mk (below_step (by repeat (first | (with_reducible first | exact HB.out | apply below_alloc | apply pw_below_drewN | apply below_drew1 | refine below_set ?_ GE130.out) | exact HB.out)) hb); have n3_ := Aside0.mk (hbox); have n4_ := Aside0.mk ((by rw [hg]; exact (below_size (by repeat (first | (with_reducible first | exact HB.out | apply below_alloc | apply pw_below_drewN | apply below_drew1 | refine below_set ?_ GE130.out) | exact HB.out))) : w.heap.size ≤ gb131)); have n5_ := Aside0.mk ((by rw [hg]; exact (below_size (by repeat (first | (with_reducible first | exact HB.out | apply below_alloc | apply pw_below_drewN | apply below_drew1 | refine below_set ?_ GE130.out) | exact HB.out))) : w.heap.size ≤ gb131)); have n6_ := Aside0.mk ((by rw [hg]; exact Nat.ne_of_lt (blk_lt (g := gb130) (o := .cells #[.int .i64 a0_0, .int .i64 a0_1, .string a0_2, .slice A0_3 l0_3.length c0_3, .slice A0_4 l0_4.length c0_4] 25 (0, 0)) (by (with_reducible repeat (first | refine blk_drewN ?_ _ | refine blk_drew ?_ | refine blk_alloc ?_ _)); exact BK130.out)) : gb130 ≠ gb131)); have n7_ := Aside0.mk ((by rw [hg]; exact Nat.ne_of_gt (blk_lt (g := gb130) (o := .cells #[.int .i64 a0_0, .int .i64 a0_1, .string a0_2, .slice A0_3 l0_3.length c0_3, .slice A0_4 l0_4.length c0_4] 25 (0, 0)) (by (with_reducible repeat (first | refine blk_drewN ?_ _ | refine blk_drew ?_ | refine blk_alloc ?_ _)); exact BK130.out)) : gb131 ≠ gb130)); clear HO0_4; clear BK130; clear HB; have HO0_4 := n0_; have BK130 := n1_; have HB := n2_; have BK131 := n3_; have GW131 := n4_; have GE131 := n5_; have NB130_131 := n6_; have NB131_130 := n7_; clear n0_ n1_ n2_ n3_ n4_ n5_ n6_ n7_; clear hb hbox hg; have hnb29 := NB130_131.out; have hnc29 := NB131_130.out; have hcz30_0 : w28.cell? ⟨gb130, 0, none⟩ = some (.int .i64 a0_0) := (blk_cell BK130.out 0).trans rfl; have hcz30_1 : w28.cell? ⟨gb130, 1, none⟩ = some (.int .i64 a0_1) := (blk_cell BK130.out 1).trans rfl; have hcz30_2 : w28.cell? ⟨gb130, 2, none⟩ = some (.string a0_2) := (blk_cell BK130.out 2).trans rfl; have hcz30_3 : w28.cell? ⟨gb130, 3, none⟩ = some (.slice A0_3 l0_3.length c0_3) := (blk_cell BK130.out 3).trans rfl; have hcz30_4 : w28.cell? ⟨gb130, 4, none⟩ = some (.slice A0_4 l0_4.length c0_4) := (blk_cell BK130.out 4).trans rfl; have hfz30_0 := blk_frozen BK130.out 0; have hfz30_1 := blk_frozen BK130.out 1; have hfz30_2 := blk_frozen BK130.out 2; have hfz30_3 := blk_frozen BK130.out 3; have hfz30_4 := blk_frozen BK130.out 4; have hcz31_0 : w28.cell? ⟨gb131, 0, none⟩ = some (.int .i64 0) := (blk_cell BK131.out 0).trans rfl; have hcz31_1 : w28.cell? ⟨gb131, 1, none⟩ = some (.int .i64 0) := (blk_cell BK131.out 1).trans rfl; have hcz31_2 : w28.cell? ⟨gb131, 2, none⟩ = some (.string (⟨#[]⟩ : ByteArray)) := (blk_cell BK131.out 2).trans rfl; have hcz31_3 : w28.cell? ⟨gb131, 3, none⟩ = some (.slice none 0 0) := (blk_cell BK131.out 3).trans rfl; have hcz31_4 : w28.cell? ⟨gb131, 4, none⟩ = some (.slice none 0 0) := (blk_cell BK131.out 4).trans rfl; have hfz31_0 := blk_frozen BK131.out 0; have hfz31_1 := blk_frozen BK131.out 1; have hfz31_2 := blk_frozen BK131.out 2; have hfz31_3 := blk_frozen BK131.out 3; have hfz31_4 := blk_frozen BK131.out 4))
    refine bodyPost_ret (results_ct rfl _ _ gb131 25 #[.int .i64 0, .int .i64 0, .string (⟨#[]⟩ : ByteArray), .slice none 0 0, .slice none 0 0] (0, 0) _ rfl (by (with_reducible repeat (first | refine blk_drewN ?_ _ | refine blk_drew ?_ | refine blk_alloc ?_ _)); refine blk_put (cs := #[.int .i64 0, .int .i64 0, .string (⟨#[]⟩ : ByteArray), .slice none 0 0, .slice none 0 0]) ?_ 4 _ rfl; (with_reducible repeat (first | refine blk_drewN ?_ _ | refine blk_drew ?_ | refine blk_alloc ?_ _)); refine blk_put (cs := #[.int .i64 0, .int .i64 0, .string (⟨#[]⟩ : ByteArray), .slice none 0 0, .slice none 0 0]) ?_ 3 _ rfl; (with_reducible repeat (first | refine blk_drewN ?_ _ | refine blk_drew ?_ | refine blk_alloc ?_ _)); refine blk_put (cs := #[.int .i64 0, .int .i64 0, .string (⟨#[]⟩ : ByteArray), .slice none 0 0, .slice none 0 0]) ?_ 2 _ rfl; (with_reducible repeat (first | refine blk_drewN ?_ _ | refine blk_drew ?_ | refine blk_alloc ?_ _)); refine blk_put (cs := #[.int .i64 0, .int .i64 0, .string (⟨#[]⟩ : ByteArray), .slice none 0 0, .slice none 0 0]) ?_ 1 _ rfl; (with_reducible repeat (first | refine blk_drewN ?_ _ | refine blk_drew ?_ | refine blk_alloc ?_ _)); refine blk_put (cs := #[.int .i64 0, .int .i64 0, .string (⟨#[]⟩ : ByteArray), .slice none 0 0, .slice none 0 0]) ?_ 0 _ rfl; (with_reducible repeat (first | refine blk_drewN ?_ _ | refine blk_drew ?_ | refine blk_alloc ?_ _)); exact BK131.out) Try.underlying25 rfl (by kernel_rfl)) rfl ?_
    exact ⟨_, _, by first | rfl | (simp [errW_none, errW_some] <;> rfl) | (simp [*, errW_none, errW_some] <;> rfl), (by exact Kd.V_nil _ _ _ _ _), (by exact Kd.V_nil _ _ _ _ _), by repeat (first | (with_reducible first | exact HB.out | apply below_alloc | apply pw_below_drewN | apply below_drew1 | refine below_set ?_ GE130.out | refine below_set ?_ GE131.out) | exact HB.out)⟩
end Go.Proofs.Ytjdldlphfifggaa.X
end
section
namespace Go.Proofs.Ytjdldlphfifggaa.X
open Go.RowKit Go.Proofs.YtjdldlphfifggaaW.PrintWords Go.Proofs.YtjdldlphfifggaaW.PrintLast Go.Proofs.YtjdldlphfifggaaW.PrintMore
attribute [local go_sem] max2_int min2_int max_two min_two max_three min_three max_four min_four
set_option linter.unusedVariables false
set_option linter.unusedSimpArgs false
mutual
def sealringref07_At.l0 : Nat → ByteArray → Int → Int → Int → ByteArray → List ByteArray → List (S25) → Option (Int)
  | 0, _, _, _, _, _, _, _ => none
  | k + 1, x1, x5, x669000, x669001, x669002, x669003, x669004 => if x5 < (x669003.length : Int) then (if x5 < (x669004.length : Int) then (sealringref07_At.j1 k x1 x5 (x669000 == 6) x669000 x669001 x669002 x669003 x669004) else (sealringref07_At.j1 k x1 x5 false x669000 x669001 x669002 x669003 x669004)) else (sealringref07_At.j1 k x1 x5 false x669000 x669001 x669002 x669003 x669004)
def sealringref07_At.j1 : Nat → ByteArray → Int → Bool → Int → Int → ByteArray → List ByteArray → List (S25) → Option (Int)
  | 0, _, _, _, _, _, _, _, _ => none
  | k + 1, x1, x5, x22, x669000, x669001, x669002, x669003, x669004 => if x22 = true then (if 0 ≤ x5 then (if x5 < (x669003.length : Int) then (if (rdOf ByteArray.empty x669003 x5).toList = x1.toList then (some x5) else (sealringref07_At.l0 k x1 (wrap64 (x5 + 1)) x669000 x669001 x669002 x669003 x669004)) else (none)) else (none)) else (some (-1))
end
def sealringref07_At.f (k : Nat) (a0_0 : Int) (a0_1 : Int) (a0_2 : ByteArray) (l0_3 : List ByteArray) (l0_4 : List (S25)) (a1 : ByteArray) : Option (Int) := sealringref07_At.l0 k a1 0 a0_0 a0_1 a0_2 l0_3 l0_4
theorem sealringref07_At.mono_l : ∀ k, (∀ y0 y1 y2 y3 y4 y5 y6, LeO (sealringref07_At.l0 k y0 y1 y2 y3 y4 y5 y6) (sealringref07_At.l0 (k + 1) y0 y1 y2 y3 y4 y5 y6)) ∧ (∀ y0 y1 y2 y3 y4 y5 y6 y7, LeO (sealringref07_At.j1 k y0 y1 y2 y3 y4 y5 y6 y7) (sealringref07_At.j1 (k + 1) y0 y1 y2 y3 y4 y5 y6 y7))
  | 0 => ⟨fun _ _ _ _ _ _ _ r h => by simp [sealringref07_At.l0] at h, fun _ _ _ _ _ _ _ _ r h => by simp [sealringref07_At.j1] at h⟩
  | k + 1 => by
    obtain ⟨ih0, ih1⟩ := sealringref07_At.mono_l k
    refine ⟨?_, ?_⟩
    · intro y0 y1 y2 y3 y4 y5 y6
      unfold sealringref07_At.l0
      repeat' first
      | (with_reducible exact ih0 _ _ _ _ _ _ _)
      | (with_reducible exact ih1 _ _ _ _ _ _ _ _)
      | (with_reducible exact LeO.refl _)
      | (with_reducible exact LeO.none _)
      | (with_reducible refine LeO.ite ?_ ?_)
      | (with_reducible refine LeO.bind ?_ (fun _ => ?_))
      | exact ih0 _ _ _ _ _ _ _
      | exact ih1 _ _ _ _ _ _ _ _
      | exact LeO.none _
      | refine LeO.ite ?_ ?_
      | refine LeO.bind ?_ (fun _ => ?_)
    · intro y0 y1 y2 y3 y4 y5 y6 y7
      unfold sealringref07_At.j1
      repeat' first
      | (with_reducible exact ih0 _ _ _ _ _ _ _)
      | (with_reducible exact ih1 _ _ _ _ _ _ _ _)
      | (with_reducible exact LeO.refl _)
      | (with_reducible exact LeO.none _)
      | (with_reducible refine LeO.ite ?_ ?_)
      | (with_reducible refine LeO.bind ?_ (fun _ => ?_))
      | exact ih0 _ _ _ _ _ _ _
      | exact ih1 _ _ _ _ _ _ _ _
      | exact LeO.none _
      | refine LeO.ite ?_ ?_
      | refine LeO.bind ?_ (fun _ => ?_)
theorem sealringref07_At.mono : ∀ a0 a1 a2 a3 a4 a5 k, LeO (sealringref07_At.f k a0 a1 a2 a3 a4 a5) (sealringref07_At.f (k + 1) a0 a1 a2 a3 a4 a5) := by
  intro a0 a1 a2 a3 a4 a5 k
  obtain ⟨ih0, ih1⟩ := sealringref07_At.mono_l k
  unfold sealringref07_At.f
  repeat' first
      | (with_reducible exact ih0 _ _ _ _ _ _ _)
      | (with_reducible exact ih1 _ _ _ _ _ _ _ _)
      | (with_reducible exact LeO.refl _)
      | (with_reducible exact LeO.none _)
      | (with_reducible refine LeO.ite ?_ ?_)
      | (with_reducible refine LeO.bind ?_ (fun _ => ?_))
      | exact ih0 _ _ _ _ _ _ _
      | exact ih1 _ _ _ _ _ _ _ _
      | exact LeO.none _
      | refine LeO.ite ?_ ?_
      | refine LeO.bind ?_ (fun _ => ?_)
set_option maxHeartbeats 8000000 in
set_option maxRecDepth 100000 in
theorem sealringref07_At.calls (k : Nat) (a0_0 : Int) (a0_1 : Int) (a0_2 : ByteArray) (A0_3 : Option Addr) (c0_3 : Nat) (l0_3 : List ByteArray) (A0_4 : Option Addr) (c0_4 : Nat) (l0_4 : List (S25)) (a1 : ByteArray) (r : Int) (w : World) (hr0_3 : Kd.C Kd.string w A0_3 l0_3.length l0_3) (hc0_3 : l0_3.length ≤ c0_3) (hr0_4 : Kd.C k25 w A0_4 l0_4.length l0_4) (hc0_4 : l0_4.length ≤ c0_4) (h : sealringref07_At.f k a0_0 a0_1 a0_2 l0_3 l0_4 a1 = some r) :
    Calls Try.prog 77 #[.agg #[.int .i64 a0_0, .int .i64 a0_1, .string a0_2, .slice A0_3 l0_3.length c0_3, .slice A0_4 l0_4.length c0_4], .string a1] w fun e w' => e = .returned (.int .i64 r) ∧ Below w.heap.size w w' := by
  have hu25 := Try.underlying25
  have HR0_3 := Aside0.mk hr0_3
  have HC0_3 := Aside0.mk hc0_3
  clear hr0_3 hc0_3
  have HR0_4 := Aside0.mk hr0_4
  have HC0_4 := Aside0.mk hc0_4
  clear hr0_4 hc0_4
  have HB := Aside0.mk (Below.refl w.heap.size w)
  have H : (sealringref07_At.l0 k a1 0 a0_0 a0_1 a0_2 l0_3 l0_4) = some r := h
  clear h
  have H' := Aside0.mk H
  clear H
  go_enter Try.func77, Try.ntmps77
  go_wp2_with (first | ((with_reducible refine gate_dst (N := 2) rfl ?_); (try (refine gate_guard (by rfl) ?_; dsimp only)); refine box_event ?hg (N := 2) ?hd (cs := #[.int .i64 a0_0, .int .i64 a0_1, .string a0_2, .slice A0_3 l0_3.length c0_3, .slice A0_4 l0_4.length c0_4]) (t := 25) ?hr ?_; (case hd => rfl); (case hg => rfl); (case hr => first | (go_simp; done) | (go_simp; rfl)); intro gb668 hg w3 hbox hb; have n0_ := Aside0.mk (below_step (by repeat (first | (with_reducible first | exact HB.out | apply below_alloc | apply pw_below_drewN | apply below_drew1) | exact HB.out)) hb); have n1_ := Aside0.mk (hbox); have n2_ := Aside0.mk ((by rw [hg]; exact (below_size (by repeat (first | (with_reducible first | exact HB.out | apply below_alloc | apply pw_below_drewN | apply below_drew1) | exact HB.out))) : w.heap.size ≤ gb668)); have n3_ := Aside0.mk ((by rw [hg]; exact (below_size (by repeat (first | (with_reducible first | exact HB.out | apply below_alloc | apply pw_below_drewN | apply below_drew1) | exact HB.out))) : w.heap.size ≤ gb668)); clear HB; have HB := n0_; have BK668 := n1_; have GW668 := n2_; have GE668 := n3_; clear n0_ n1_ n2_ n3_; clear hb hbox hg))
  go_loopg [5] k (fun kq v5 w' => ∃ (x5_1 : Int), v5 = .int .i64 x5_1 ∧ Aside0 (sealringref07_At.l0 kq a1 x5_1 a0_0 a0_1 a0_2 l0_3 l0_4 = some r) ∧ Aside0 (kq ≤ k) ∧ Aside0 (w'.heap[gb668]? = some (.cells #[.int .i64 a0_0, .int .i64 a0_1, .string a0_2, (.slice A0_3 l0_3.length c0_3), (.slice A0_4 l0_4.length c0_4)] 25 (0, 0))) ∧ Aside0 (Below w.heap.size w w'))
  case atStart => exact ⟨(0), (by first | rfl | (simp; done) | (simp [*]; done)), (by first | with_reducible exact H' | exact H' | (subst_vars; exact H')), ⟨Nat.le_refl _⟩, ⟨by (with_reducible repeat (first | refine blk_drewN ?_ _ | refine blk_drew ?_ | refine blk_alloc ?_ _)); exact BK668.out⟩, ⟨by repeat (first | (with_reducible first | exact HB.out | apply below_alloc | apply pw_below_drewN | apply below_drew1 | refine below_set ?_ GE668.out) | exact HB.out)⟩⟩
  case round =>
    clear H'
    try clear p2
    obtain ⟨x5_1, rfl, HA, HK1, BK668, HB⟩ := hrel
    cases gk with
    | zero => exact absurd HA.out (by simp [sealringref07_At.l0])
    | succ k1 =>
      have H := HA.out
      clear HA
      simp only [sealringref07_At.l0] at H
      have HC4 := Aside0.mk H
      clear H
      go_upto_region 2 with (fail)
      go_cut [22] (fun v22 wc => ∃ (kq : Nat) (x22_3 : Bool), v22 = .bool x22_3 ∧ Aside0 (sealringref07_At.j1 kq a1 x5_1 x22_3 a0_0 a0_1 a0_2 l0_3 l0_4 = some r) ∧ Aside0 (kq ≤ k1) ∧ Aside0 (wc.heap[gb668]? = some (.cells #[.int .i64 a0_0, .int .i64 a0_1, .string a0_2, (.slice A0_3 l0_3.length c0_3), (.slice A0_4 l0_4.length c0_4)] 25 (0, 0))) ∧ Aside0 (Below w.heap.size w wc))
      case first =>
        have H := HC4.out
        clear HC4
        by_cases c5 : x5_1 < (l0_3.length : Int)
        · rw [if_pos c5] at H
          have c5b0 : decide (x5_1 < (l0_3.length : Int)) = true := decide_eq_true c5
          clear c5
          (first | rw [c5b0] | (simp only [i64_w, i32_w]; rw [c5b0]) | skip)
          by_cases c6 : x5_1 < (l0_4.length : Int)
          · rw [if_pos c6] at H
            have c6b0 : decide (x5_1 < (l0_4.length : Int)) = true := decide_eq_true c6
            clear c6
            have H' := Aside0.mk H
            clear H
            have hcz7_0 : wr.cell? ⟨gb668, 0, none⟩ = some (.int .i64 a0_0) := (blk_cell BK668.out 0).trans rfl
            have hcz7_1 : wr.cell? ⟨gb668, 1, none⟩ = some (.int .i64 a0_1) := (blk_cell BK668.out 1).trans rfl
            have hcz7_2 : wr.cell? ⟨gb668, 2, none⟩ = some (.string a0_2) := (blk_cell BK668.out 2).trans rfl
            have hcz7_3 : wr.cell? ⟨gb668, 3, none⟩ = some (.slice A0_3 l0_3.length c0_3) := (blk_cell BK668.out 3).trans rfl
            have hcz7_4 : wr.cell? ⟨gb668, 4, none⟩ = some (.slice A0_4 l0_4.length c0_4) := (blk_cell BK668.out 4).trans rfl
            have hfz7_0 := blk_frozen BK668.out 0
            have hfz7_1 := blk_frozen BK668.out 1
            have hfz7_2 := blk_frozen BK668.out 2
            have hfz7_3 := blk_frozen BK668.out 3
            have hfz7_4 := blk_frozen BK668.out 4
            go_wp2
            go_meet
            case rel => exact ⟨_, ((a0_0 == 6)), (by first | rfl | (simp; done) | (simp [*]; done)), (by first | with_reducible exact H' | exact H' | (subst_vars; exact H')), ⟨by have := HK1.out; first | omega | exact Nat.le_refl _⟩, ⟨by (with_reducible repeat (first | refine blk_drewN ?_ _ | refine blk_drew ?_ | refine blk_alloc ?_ _)); exact BK668.out⟩, ⟨by repeat (first | (with_reducible first | exact HB.out | apply below_alloc | apply pw_below_drewN | apply below_drew1 | refine below_set ?_ GE668.out) | exact HB.out)⟩⟩
          · rw [if_neg c6] at H
            have c6b0 : decide (x5_1 < (l0_4.length : Int)) = false := decide_eq_false c6
            clear c6
            have H' := Aside0.mk H
            clear H
            have hcz8_0 : wr.cell? ⟨gb668, 0, none⟩ = some (.int .i64 a0_0) := (blk_cell BK668.out 0).trans rfl
            have hcz8_1 : wr.cell? ⟨gb668, 1, none⟩ = some (.int .i64 a0_1) := (blk_cell BK668.out 1).trans rfl
            have hcz8_2 : wr.cell? ⟨gb668, 2, none⟩ = some (.string a0_2) := (blk_cell BK668.out 2).trans rfl
            have hcz8_3 : wr.cell? ⟨gb668, 3, none⟩ = some (.slice A0_3 l0_3.length c0_3) := (blk_cell BK668.out 3).trans rfl
            have hcz8_4 : wr.cell? ⟨gb668, 4, none⟩ = some (.slice A0_4 l0_4.length c0_4) := (blk_cell BK668.out 4).trans rfl
            have hfz8_0 := blk_frozen BK668.out 0
            have hfz8_1 := blk_frozen BK668.out 1
            have hfz8_2 := blk_frozen BK668.out 2
            have hfz8_3 := blk_frozen BK668.out 3
            have hfz8_4 := blk_frozen BK668.out 4
            go_wp2
            go_meet
            case rel => exact ⟨_, (false), (by first | rfl | (simp; done) | (simp [*]; done)), (by first | with_reducible exact H' | exact H' | (subst_vars; exact H')), ⟨by have := HK1.out; first | omega | exact Nat.le_refl _⟩, ⟨by (with_reducible repeat (first | refine blk_drewN ?_ _ | refine blk_drew ?_ | refine blk_alloc ?_ _)); exact BK668.out⟩, ⟨by repeat (first | (with_reducible first | exact HB.out | apply below_alloc | apply pw_below_drewN | apply below_drew1 | refine below_set ?_ GE668.out) | exact HB.out)⟩⟩
        · rw [if_neg c5] at H
          have c5b0 : decide (x5_1 < (l0_3.length : Int)) = false := decide_eq_false c5
          clear c5
          (first | rw [c5b0] | (simp only [i64_w, i32_w]; rw [c5b0]) | skip)
          have H' := Aside0.mk H
          clear H
          have hcz9_0 : wr.cell? ⟨gb668, 0, none⟩ = some (.int .i64 a0_0) := (blk_cell BK668.out 0).trans rfl
          have hcz9_1 : wr.cell? ⟨gb668, 1, none⟩ = some (.int .i64 a0_1) := (blk_cell BK668.out 1).trans rfl
          have hcz9_2 : wr.cell? ⟨gb668, 2, none⟩ = some (.string a0_2) := (blk_cell BK668.out 2).trans rfl
          have hcz9_3 : wr.cell? ⟨gb668, 3, none⟩ = some (.slice A0_3 l0_3.length c0_3) := (blk_cell BK668.out 3).trans rfl
          have hcz9_4 : wr.cell? ⟨gb668, 4, none⟩ = some (.slice A0_4 l0_4.length c0_4) := (blk_cell BK668.out 4).trans rfl
          have hfz9_0 := blk_frozen BK668.out 0
          have hfz9_1 := blk_frozen BK668.out 1
          have hfz9_2 := blk_frozen BK668.out 2
          have hfz9_3 := blk_frozen BK668.out 3
          have hfz9_4 := blk_frozen BK668.out 4
          go_wp2
          go_meet
          case rel => exact ⟨_, (false), (by first | rfl | (simp; done) | (simp [*]; done)), (by first | with_reducible exact H' | exact H' | (subst_vars; exact H')), ⟨by have := HK1.out; first | omega | exact Nat.le_refl _⟩, ⟨by (with_reducible repeat (first | refine blk_drewN ?_ _ | refine blk_drew ?_ | refine blk_alloc ?_ _)); exact BK668.out⟩, ⟨by repeat (first | (with_reducible first | exact HB.out | apply below_alloc | apply pw_below_drewN | apply below_drew1 | refine below_set ?_ GE668.out) | exact HB.out)⟩⟩
      case rest =>
        clear HC4
        try clear p2
        try clear c5
        try clear c5b0
        try clear c6
        try clear c6b0
        try clear c7
        try clear hcz7_0
        try clear hcz7_1
        try clear hcz7_2
        try clear hcz7_3
        try clear hcz7_4
        try clear hcz8_0
        try clear hcz8_1
        try clear hcz8_2
        try clear hcz8_3
        try clear hcz8_4
        try clear hcz9_0
        try clear hcz9_1
        try clear hcz9_2
        try clear hcz9_3
        try clear hcz9_4
        try clear hfz7_0
        try clear hfz7_1
        try clear hfz7_2
        try clear hfz7_3
        try clear hfz7_4
        try clear hfz8_0
        try clear hfz8_1
        try clear hfz8_2
        try clear hfz8_3
        try clear hfz8_4
        try clear hfz9_0
        try clear hfz9_1
        try clear hfz9_2
        try clear hfz9_3
        try clear hfz9_4
        try clear p2
        obtain ⟨kq, x22_3, rfl, HA, HJ3, BK668, HB⟩ := hcut
        cases kq with
        | zero => exact absurd HA.out (by simp [sealringref07_At.j1])
        | succ kj3 =>
          have H := HA.out
          clear HA
          simp only [sealringref07_At.j1] at H
          by_cases c10 : x22_3 = true
          · subst c10
            have H1 : (if 0 ≤ x5_1 then (if x5_1 < (l0_3.length : Int) then (if (rdOf ByteArray.empty l0_3 x5_1).toList = a1.toList then (some x5_1) else (sealringref07_At.l0 kj3 a1 (wrap64 (x5_1 + 1)) a0_0 a0_1 a0_2 l0_3 l0_4)) else (none)) else (none)) = some r := by rw [if_pos rfl] at H; exact H
            clear H
            have H := H1
            clear H1
            by_cases c11 : 0 ≤ x5_1
            · rw [if_pos c11] at H
              have c11b0 : decide (0 ≤ x5_1) = true := decide_eq_true c11
              clear c11
              by_cases c12 : x5_1 < (l0_3.length : Int)
              · rw [if_pos c12] at H
                have c12b0 : decide (x5_1 < (l0_3.length : Int)) = true := decide_eq_true c12
                clear c12
                by_cases c13 : (rdOf ByteArray.empty l0_3 x5_1).toList = a1.toList
                · rw [if_pos c13] at H
                  have c13b0 : ((rdOf ByteArray.empty l0_3 x5_1).toList == a1.toList) = true := beq_iff_eq.mpr c13
                  have c13b1 : ((rdOf ByteArray.empty l0_3 x5_1).toList != a1.toList) = false := bne_eq_false_iff_eq.mpr c13
                  clear c13
                  obtain rfl := Option.some.inj H
                  have hcz14_0 : wc.cell? ⟨gb668, 0, none⟩ = some (.int .i64 a0_0) := (blk_cell BK668.out 0).trans rfl
                  have hcz14_1 : wc.cell? ⟨gb668, 1, none⟩ = some (.int .i64 a0_1) := (blk_cell BK668.out 1).trans rfl
                  have hcz14_2 : wc.cell? ⟨gb668, 2, none⟩ = some (.string a0_2) := (blk_cell BK668.out 2).trans rfl
                  have hcz14_3 : wc.cell? ⟨gb668, 3, none⟩ = some (.slice A0_3 l0_3.length c0_3) := (blk_cell BK668.out 3).trans rfl
                  have hcz14_4 : wc.cell? ⟨gb668, 4, none⟩ = some (.slice A0_4 l0_4.length c0_4) := (blk_cell BK668.out 4).trans rfl
                  have hfz14_0 := blk_frozen BK668.out 0
                  have hfz14_1 := blk_frozen BK668.out 1
                  have hfz14_2 := blk_frozen BK668.out 2
                  have hfz14_3 := blk_frozen BK668.out 3
                  have hfz14_4 := blk_frozen BK668.out 4
                  have p669 : 0 ≤ (x5_1 : Int) := of_decide_eq_true (by first | (with_reducible assumption) | assumption)
                  have q669 : x5_1 < (l0_3.length : Int) := of_decide_eq_true (by first | (with_reducible assumption) | assumption)
                  obtain ⟨ad669, e669, hx669_0⟩ := Kd.at_string HR0_3.out x5_1 p669 q669
                  cases e669
                  (try replace hx669_0 := (HB.out.cell (World.block_lt_of_cell? w _ hx669_0)).trans hx669_0)
                  replace p669 := eq_true p669
                  replace q669 := eq_true q669
                  go_wp2
                  go_ret
                  exact ⟨by first | rfl | (simp [errW_none, errW_some] <;> rfl) | (simp [*, errW_none, errW_some] <;> rfl), by repeat (first | (with_reducible first | exact HB.out | apply below_alloc | apply pw_below_drewN | apply below_drew1 | refine below_set ?_ GE668.out) | exact HB.out)⟩
                · rw [if_neg c13] at H
                  have c13b0 : ((rdOf ByteArray.empty l0_3 x5_1).toList == a1.toList) = false := beq_eq_false_iff_ne.mpr c13
                  have c13b1 : ((rdOf ByteArray.empty l0_3 x5_1).toList != a1.toList) = true := bne_iff_ne.mpr c13
                  have H' := Aside0.mk H
                  clear H
                  have hcz15_0 : wc.cell? ⟨gb668, 0, none⟩ = some (.int .i64 a0_0) := (blk_cell BK668.out 0).trans rfl
                  have hcz15_1 : wc.cell? ⟨gb668, 1, none⟩ = some (.int .i64 a0_1) := (blk_cell BK668.out 1).trans rfl
                  have hcz15_2 : wc.cell? ⟨gb668, 2, none⟩ = some (.string a0_2) := (blk_cell BK668.out 2).trans rfl
                  have hcz15_3 : wc.cell? ⟨gb668, 3, none⟩ = some (.slice A0_3 l0_3.length c0_3) := (blk_cell BK668.out 3).trans rfl
                  have hcz15_4 : wc.cell? ⟨gb668, 4, none⟩ = some (.slice A0_4 l0_4.length c0_4) := (blk_cell BK668.out 4).trans rfl
                  have hfz15_0 := blk_frozen BK668.out 0
                  have hfz15_1 := blk_frozen BK668.out 1
                  have hfz15_2 := blk_frozen BK668.out 2
                  have hfz15_3 := blk_frozen BK668.out 3
                  have hfz15_4 := blk_frozen BK668.out 4
                  have p669 : 0 ≤ (x5_1 : Int) := of_decide_eq_true (by first | (with_reducible assumption) | assumption)
                  have q669 : x5_1 < (l0_3.length : Int) := of_decide_eq_true (by first | (with_reducible assumption) | assumption)
                  obtain ⟨ad669, e669, hx669_0⟩ := Kd.at_string HR0_3.out x5_1 p669 q669
                  cases e669
                  (try replace hx669_0 := (HB.out.cell (World.block_lt_of_cell? w _ hx669_0)).trans hx669_0)
                  replace p669 := eq_true p669
                  replace q669 := eq_true q669
                  go_wp2
                  go_roundg kj3
                  case measure => have := HK1.out; have := HJ3.out; omega
                  case rel => exact ⟨(wrap64 (x5_1 + 1)), (by first | rfl | (simp; done) | (simp [*]; done)), (by first | with_reducible exact H' | exact H' | (subst_vars; exact H')), ⟨by have := HK1.out; have := HJ3.out; omega⟩, ⟨by (with_reducible repeat (first | refine blk_drewN ?_ _ | refine blk_drew ?_ | refine blk_alloc ?_ _)); exact BK668.out⟩, ⟨by repeat (first | (with_reducible first | exact HB.out | apply below_alloc | apply pw_below_drewN | apply below_drew1 | refine below_set ?_ GE668.out) | exact HB.out)⟩⟩
              · rw [if_neg c12] at H
                exact absurd H (by simp)
            · rw [if_neg c11] at H
              exact absurd H (by simp)
          · replace c10 := Bool.eq_false_iff.mpr c10
            subst c10
            have H1 : (some (-1)) = some r := by rw [if_neg (show ¬ (false = true) by decide)] at H; exact H
            clear H
            have H := H1
            clear H1
            obtain rfl := Option.some.inj H
            go_wp2
            go_ret
            exact ⟨by first | rfl | (simp [errW_none, errW_some] <;> rfl) | (simp [*, errW_none, errW_some] <;> rfl), by repeat (first | (with_reducible first | exact HB.out | apply below_alloc | apply pw_below_drewN | apply below_drew1 | refine below_set ?_ GE668.out) | exact HB.out)⟩
end Go.Proofs.Ytjdldlphfifggaa.X
end
section
namespace Go.Proofs.Ytjdldlphfifggaa.X
open Go.RowKit Go.Proofs.YtjdldlphfifggaaW.PrintWords Go.Proofs.YtjdldlphfifggaaW.PrintLast Go.Proofs.YtjdldlphfifggaaW.PrintMore
attribute [local go_sem] max2_int min2_int max_two min_two max_three min_three max_four min_four
set_option linter.unusedVariables false
set_option linter.unusedSimpArgs false
def sealringref07_Get.f (k : Nat) (a0_0 : Int) (a0_1 : Int) (a0_2 : ByteArray) (l0_3 : List ByteArray) (l0_4 : List (S25)) (a1 : ByteArray) : Option (Int × Int × ByteArray × List ByteArray × (List (S25)) × Bool) := (sealringref07_At.f k a0_0 a0_1 a0_2 l0_3 l0_4 a1).bind fun t672 => (if t672 < 0 then (some (0, 0, (⟨#[]⟩ : ByteArray), ([] : List ByteArray), ([] : List (S25)), false)) else (if 0 ≤ t672 then (if t672 < (l0_4.length : Int) then (some ((rd_T25 l0_4 t672).f0, (rd_T25 l0_4 t672).f1, (rd_T25 l0_4 t672).f2, (rd_T25 l0_4 t672).f3, (rd_T25 l0_4 t672).f4, true)) else (none)) else (none)))
theorem sealringref07_Get.mono : ∀ a0 a1 a2 a3 a4 a5 k, LeO (sealringref07_Get.f k a0 a1 a2 a3 a4 a5) (sealringref07_Get.f (k + 1) a0 a1 a2 a3 a4 a5) := by
  intro a0 a1 a2 a3 a4 a5 k
  unfold sealringref07_Get.f
  repeat' first
      | (with_reducible exact sealringref07_At.mono _ _ _ _ _ _ _)
      | (with_reducible exact LeO.refl _)
      | (with_reducible exact LeO.none _)
      | (with_reducible refine LeO.ite ?_ ?_)
      | (with_reducible refine LeO.bind ?_ (fun _ => ?_))
      | exact sealringref07_At.mono _ _ _ _ _ _ _
      | exact LeO.none _
      | refine LeO.ite ?_ ?_
      | refine LeO.bind ?_ (fun _ => ?_)
set_option maxHeartbeats 8000000 in
set_option maxRecDepth 100000 in
theorem sealringref07_Get.calls (k : Nat) (a0_0 : Int) (a0_1 : Int) (a0_2 : ByteArray) (A0_3 : Option Addr) (c0_3 : Nat) (l0_3 : List ByteArray) (P0_4_ : Nat → Prop) (A0_4 : Option Addr) (c0_4 : Nat) (l0_4 : List (S25)) (a1 : ByteArray) (r1 : Int) (r2 : Int) (r3 : ByteArray) (r4 : List ByteArray) (r5 : List (S25)) (r6 : Bool) (w : World) (hr0_3 : Kd.C Kd.string w A0_3 l0_3.length l0_3) (hc0_3 : l0_3.length ≤ c0_3) (hs0_4 : Kd.V k25 25 w w.heap.size (fun k_ => P0_4_ k_) (.slice A0_4 l0_4.length c0_4) l0_4) (h : sealringref07_Get.f k a0_0 a0_1 a0_2 l0_3 l0_4 a1 = some (r1, r2, r3, r4, r5, r6)) :
    Calls Try.prog 31 #[.agg #[.int .i64 a0_0, .int .i64 a0_1, .string a0_2, .slice A0_3 l0_3.length c0_3, .slice A0_4 l0_4.length c0_4], .string a1] w fun e w' => ∃ v3_ v4_ : Value, e = .returned (.tuple #[.agg #[.int .i64 r1, .int .i64 r2, .string r3, v3_, v4_], .bool r6]) ∧ Kd.V Kd.string 9 w' w.heap.size (fun k_ => (P0_4_ k_ ∨ w.heap.size ≤ k_)) v3_ r4 ∧ Kd.V k25 25 w' w.heap.size (fun k_ => (P0_4_ k_ ∨ w.heap.size ≤ k_)) v4_ r5 ∧ Below w.heap.size w w' := by
  have hu25 := Try.underlying25
  have HR0_3 := Aside0.mk hr0_3
  have HC0_3 := Aside0.mk hc0_3
  clear hr0_3 hc0_3
  have HO0_4 := Aside0.mk (show Kd.V k25 25 w w.heap.size (fun k_ => (P0_4_ k_ ∨ w.heap.size ≤ k_)) (.slice A0_4 l0_4.length c0_4) l0_4 from Kd.V_mono hs0_4 (fun k_ hk => .inl hk))
  have HB := Aside0.mk (Below.refl w.heap.size w)
  have H : ((sealringref07_At.f k a0_0 a0_1 a0_2 l0_3 l0_4 a1).bind fun t672 => (if t672 < 0 then (some (0, 0, (⟨#[]⟩ : ByteArray), ([] : List ByteArray), ([] : List (S25)), false)) else (if 0 ≤ t672 then (if t672 < (l0_4.length : Int) then (some ((rd_T25 l0_4 t672).f0, (rd_T25 l0_4 t672).f1, (rd_T25 l0_4 t672).f2, (rd_T25 l0_4 t672).f3, (rd_T25 l0_4 t672).f4, true)) else (none)) else (none)))) = some (r1, r2, r3, r4, r5, r6) := h
  clear h
  replace H := Option.bind_eq_some_iff.mp H
  obtain ⟨t672, A30, H⟩ := H
  replace H : (if t672 < 0 then (some (0, 0, (⟨#[]⟩ : ByteArray), ([] : List ByteArray), ([] : List (S25)), false)) else (if 0 ≤ t672 then (if t672 < (l0_4.length : Int) then (some ((rd_T25 l0_4 t672).f0, (rd_T25 l0_4 t672).f1, (rd_T25 l0_4 t672).f2, (rd_T25 l0_4 t672).f3, (rd_T25 l0_4 t672).f4, true)) else (none)) else (none))) = some (r1, r2, r3, r4, r5, r6) := H
  have A3 := Aside0.mk A30
  clear A30
  by_cases c4 : t672 < 0
  · rw [if_pos c4] at H
    have c4b0 : decide (t672 < 0) = true := decide_eq_true c4
    clear c4
    simp only [Option.some.injEq, Prod.mk.injEq] at H
    obtain ⟨rfl, rfl, rfl, rfl, rfl, rfl⟩ := H
    go_enter Try.func31, Try.ntmps31
    go_wp2_with (first | ((with_reducible refine gate_dst (N := 2) rfl ?_); refine box_event ?hg (N := 2) ?hd (cs := #[.int .i64 a0_0, .int .i64 a0_1, .string a0_2, .slice A0_3 l0_3.length c0_3, .slice A0_4 l0_4.length c0_4]) (t := 25) ?hr ?_; (case hd => rfl); (case hg => rfl); (case hr => first | (go_simp; done) | (go_simp; rfl)); intro gb670 hg w5 hbox hb; have n0_ := Aside0.mk (Kd.V_below (Kd.V_elderB (by (with_reducible repeat (first | apply Kd.V_alloc | apply Kd.V_drewN | apply Kd.V_drew)); exact HO0_4.out) gb670 (Nat.le_of_eq hg.symm)) hb); have n1_ := Aside0.mk (below_step (by repeat (first | (with_reducible first | exact HB.out | apply below_alloc | apply pw_below_drewN | apply below_drew1) | exact HB.out)) hb); have n2_ := Aside0.mk (hbox); have n3_ := Aside0.mk ((by rw [hg]; exact (below_size (by repeat (first | (with_reducible first | exact HB.out | apply below_alloc | apply pw_below_drewN | apply below_drew1) | exact HB.out))) : w.heap.size ≤ gb670)); have n4_ := Aside0.mk ((by rw [hg]; exact (below_size (by repeat (first | (with_reducible first | exact HB.out | apply below_alloc | apply pw_below_drewN | apply below_drew1) | exact HB.out))) : w.heap.size ≤ gb670)); clear HO0_4; clear HB; have HO0_4 := n0_; have HB := n1_; have BK670 := n2_; have GW670 := n3_; have GE670 := n4_; clear n0_ n1_ n2_ n3_ n4_; clear hb hbox hg) | ((with_reducible refine gate_dst (N := 4) rfl ?_); refine box_event ?hg (N := 4) ?hd (cs := #[.int .i64 0, .int .i64 0, .string (⟨#[]⟩ : ByteArray), .slice none 0 0, .slice none 0 0]) (t := 25) ?hr ?_; (case hd => rfl); (case hg => rfl); (case hr => first | (go_simp; done) | (go_simp; rfl)); intro gb671 hg w6 hbox hb; have n0_ := Aside0.mk (Kd.V_below (Kd.V_elderB (by (with_reducible repeat (first | apply Kd.V_alloc | apply Kd.V_drewN | apply Kd.V_drew)); exact HO0_4.out) gb671 (Nat.le_of_eq hg.symm)) hb); have n1_ := Aside0.mk (blk_below (g := gb670) (o := .cells #[.int .i64 a0_0, .int .i64 a0_1, .string a0_2, .slice A0_3 l0_3.length c0_3, .slice A0_4 l0_4.length c0_4] 25 (0, 0)) (by (with_reducible repeat (first | refine blk_drewN ?_ _ | refine blk_drew ?_ | refine blk_alloc ?_ _)); exact BK670.out) hb); have n2_ := Aside0.mk (below_step (by repeat (first | (with_reducible first | exact HB.out | apply below_alloc | apply pw_below_drewN | apply below_drew1 | refine below_set ?_ GE670.out) | exact HB.out)) hb); have n3_ := Aside0.mk (hbox); have n4_ := Aside0.mk ((by rw [hg]; exact (below_size (by repeat (first | (with_reducible first | exact HB.out | apply below_alloc | apply pw_below_drewN | apply below_drew1 | refine below_set ?_ GE670.out) | exact HB.out))) : w.heap.size ≤ gb671)); have n5_ := Aside0.mk ((by rw [hg]; exact (below_size (by repeat (first | (with_reducible first | exact HB.out | apply below_alloc | apply pw_below_drewN | apply below_drew1 | refine below_set ?_ GE670.out) | exact HB.out))) : w.heap.size ≤ gb671)); have n6_ := Aside0.mk ((by rw [hg]; exact Nat.ne_of_lt (blk_lt (g := gb670) (o := .cells #[.int .i64 a0_0, .int .i64 a0_1, .string a0_2, .slice A0_3 l0_3.length c0_3, .slice A0_4 l0_4.length c0_4] 25 (0, 0)) (by (with_reducible repeat (first | refine blk_drewN ?_ _ | refine blk_drew ?_ | refine blk_alloc ?_ _)); exact BK670.out)) : gb670 ≠ gb671)); have n7_ := Aside0.mk ((by rw [hg]; exact Nat.ne_of_gt (blk_lt (g := gb670) (o := .cells #[.int .i64 a0_0, .int .i64 a0_1, .string a0_2, .slice A0_3 l0_3.length c0_3, .slice A0_4 l0_4.length c0_4] 25 (0, 0)) (by (with_reducible repeat (first | refine blk_drewN ?_ _ | refine blk_drew ?_ | refine blk_alloc ?_ _)); exact BK670.out)) : gb671 ≠ gb670)); clear HO0_4; clear BK670; clear HB; have HO0_4 := n0_; have BK670 := n1_; have HB := n2_; have BK671 := n3_; have GW671 := n4_; have GE671 := n5_; have NB670_671 := n6_; have NB671_670 := n7_; clear n0_ n1_ n2_ n3_ n4_ n5_ n6_ n7_; clear hb hbox hg; have hnb7 := NB670_671.out; have hnc7 := NB671_670.out; have hcz8_0 : w6.cell? ⟨gb670, 0, none⟩ = some (.int .i64 a0_0) := (blk_cell BK670.out 0).trans rfl; have hcz8_1 : w6.cell? ⟨gb670, 1, none⟩ = some (.int .i64 a0_1) := (blk_cell BK670.out 1).trans rfl; have hcz8_2 : w6.cell? ⟨gb670, 2, none⟩ = some (.string a0_2) := (blk_cell BK670.out 2).trans rfl; have hcz8_3 : w6.cell? ⟨gb670, 3, none⟩ = some (.slice A0_3 l0_3.length c0_3) := (blk_cell BK670.out 3).trans rfl; have hcz8_4 : w6.cell? ⟨gb670, 4, none⟩ = some (.slice A0_4 l0_4.length c0_4) := (blk_cell BK670.out 4).trans rfl; have hfz8_0 := blk_frozen BK670.out 0; have hfz8_1 := blk_frozen BK670.out 1; have hfz8_2 := blk_frozen BK670.out 2; have hfz8_3 := blk_frozen BK670.out 3; have hfz8_4 := blk_frozen BK670.out 4) | ((with_reducible refine gate_callee (f := 77) rfl ?_); refine goesL_ (some 9) rfl rfl Try.func77 (by kernel_rfl) rfl #[.agg #[.int .i64 a0_0, .int .i64 a0_1, .string a0_2, .slice A0_3 l0_3.length c0_3, .slice A0_4 l0_4.length c0_4], .string a1] rfl (by (try simp only [List.map_toArray, List.map_cons, List.map_nil]); first | done | rfl | (simp only [List.length_drop, List.length_take]; rfl)) ?_; (with_reducible refine (sealringref07_At.calls k a0_0 a0_1 a0_2 _ _ l0_3 _ _ l0_4 a1 t672 _ ?side1 ?side2 ?side3 ?side4 A3.out).mono ?_); (case side1 => repeat (first | exact (Kd.C_below HR0_3.out HB.out) | (with_reducible refine Kd.C_alloc ?_ _) | (with_reducible refine Kd.C_drewN ?_ _) | (with_reducible refine Kd.C_drew ?_))); (case side2 => exact HC0_3.out); (case side3 => repeat (first | exact (Kd.V_reads' HO0_4.out).2.2 | (with_reducible refine Kd.C_alloc ?_ _) | (with_reducible refine Kd.C_drewN ?_ _) | (with_reducible refine Kd.C_drew ?_))); (case side4 => exact (Kd.V_reads' HO0_4.out).2.1); rintro e w9 ⟨rfl, hb⟩; refine ⟨_, rfl, ?_⟩; have n0_ := Aside0.mk (Kd.V_below (by (with_reducible repeat (first | apply Kd.V_alloc | apply Kd.V_drewN | apply Kd.V_drew)); exact HO0_4.out) hb); have n1_ := Aside0.mk (blk_below (g := gb670) (o := .cells #[.int .i64 a0_0, .int .i64 a0_1, .string a0_2, .slice A0_3 l0_3.length c0_3, .slice A0_4 l0_4.length c0_4] 25 (0, 0)) (by (with_reducible repeat (first | refine blk_drewN ?_ _ | refine blk_drew ?_ | refine blk_alloc ?_ _)); exact BK670.out) hb); have n2_ := Aside0.mk (blk_below (g := gb671) (o := .cells #[.int .i64 0, .int .i64 0, .string (⟨#[]⟩ : ByteArray), .slice none 0 0, .slice none 0 0] 25 (0, 0)) (by (with_reducible repeat (first | refine blk_drewN ?_ _ | refine blk_drew ?_ | refine blk_alloc ?_ _)); exact BK671.out) hb); have n3_ := Aside0.mk (below_step (by repeat (first | (with_reducible first | exact HB.out | apply below_alloc | apply pw_below_drewN | apply below_drew1 | refine below_set ?_ GE670.out | refine below_set ?_ GE671.out) | exact HB.out)) hb); clear HO0_4; clear BK670; clear BK671; clear HB; have HO0_4 := n0_; have BK670 := n1_; have BK671 := n2_; have HB := n3_; clear n0_ n1_ n2_ n3_; (try clear hb); (try clear hb2); (try clear hk); (try clear hi); have hcz10_0 : w9.cell? ⟨gb671, 0, none⟩ = some (.int .i64 0) := (blk_cell BK671.out 0).trans rfl; have hcz10_1 : w9.cell? ⟨gb671, 1, none⟩ = some (.int .i64 0) := (blk_cell BK671.out 1).trans rfl; have hcz10_2 : w9.cell? ⟨gb671, 2, none⟩ = some (.string (⟨#[]⟩ : ByteArray)) := (blk_cell BK671.out 2).trans rfl; have hcz10_3 : w9.cell? ⟨gb671, 3, none⟩ = some (.slice none 0 0) := (blk_cell BK671.out 3).trans rfl; have hcz10_4 : w9.cell? ⟨gb671, 4, none⟩ = some (.slice none 0 0) := (blk_cell BK671.out 4).trans rfl; have hfz10_0 := blk_frozen BK671.out 0; have hfz10_1 := blk_frozen BK671.out 1; have hfz10_2 := blk_frozen BK671.out 2; have hfz10_3 := blk_frozen BK671.out 3; have hfz10_4 := blk_frozen BK671.out 4))
    refine bodyPost_ret (results_ct rfl _ _ gb671 25 #[.int .i64 0, .int .i64 0, .string (⟨#[]⟩ : ByteArray), .slice none 0 0, .slice none 0 0] (0, 0) _ rfl (by (with_reducible repeat (first | refine blk_drewN ?_ _ | refine blk_drew ?_ | refine blk_alloc ?_ _)); refine blk_put (cs := #[.int .i64 0, .int .i64 0, .string (⟨#[]⟩ : ByteArray), .slice none 0 0, .slice none 0 0]) ?_ 4 _ rfl; (with_reducible repeat (first | refine blk_drewN ?_ _ | refine blk_drew ?_ | refine blk_alloc ?_ _)); refine blk_put (cs := #[.int .i64 0, .int .i64 0, .string (⟨#[]⟩ : ByteArray), .slice none 0 0, .slice none 0 0]) ?_ 3 _ rfl; (with_reducible repeat (first | refine blk_drewN ?_ _ | refine blk_drew ?_ | refine blk_alloc ?_ _)); refine blk_put (cs := #[.int .i64 0, .int .i64 0, .string (⟨#[]⟩ : ByteArray), .slice none 0 0, .slice none 0 0]) ?_ 2 _ rfl; (with_reducible repeat (first | refine blk_drewN ?_ _ | refine blk_drew ?_ | refine blk_alloc ?_ _)); refine blk_put (cs := #[.int .i64 0, .int .i64 0, .string (⟨#[]⟩ : ByteArray), .slice none 0 0, .slice none 0 0]) ?_ 1 _ rfl; (with_reducible repeat (first | refine blk_drewN ?_ _ | refine blk_drew ?_ | refine blk_alloc ?_ _)); refine blk_put (cs := #[.int .i64 0, .int .i64 0, .string (⟨#[]⟩ : ByteArray), .slice none 0 0, .slice none 0 0]) ?_ 0 _ rfl; (with_reducible repeat (first | refine blk_drewN ?_ _ | refine blk_drew ?_ | refine blk_alloc ?_ _)); exact BK671.out) Try.underlying25 rfl (by kernel_rfl)) rfl ?_
    exact ⟨_, _, by first | rfl | (simp [errW_none, errW_some] <;> rfl) | (simp [*, errW_none, errW_some] <;> rfl), (by exact Kd.V_nil _ _ _ _ _), (by exact Kd.V_nil _ _ _ _ _), by repeat (first | (with_reducible first | exact HB.out | apply below_alloc | apply pw_below_drewN | apply below_drew1 | refine below_set ?_ GE670.out | refine below_set ?_ GE671.out) | exact HB.out)⟩
  · rw [if_neg c4] at H
    have c4b0 : decide (t672 < 0) = false := decide_eq_false c4
    clear c4
    by_cases c11 : 0 ≤ t672
    · rw [if_pos c11] at H
      have c11b0 : decide (0 ≤ t672) = true := decide_eq_true c11
      clear c11
      by_cases c12 : t672 < (l0_4.length : Int)
      · rw [if_pos c12] at H
        have c12b0 : decide (t672 < (l0_4.length : Int)) = true := decide_eq_true c12
        clear c12
        simp only [Option.some.injEq, Prod.mk.injEq] at H
        obtain ⟨rfl, rfl, rfl, rfl, rfl, rfl⟩ := H
        go_enter Try.func31, Try.ntmps31
        go_wp2_with (first | ((with_reducible refine gate_dst (N := 2) rfl ?_); refine box_event ?hg (N := 2) ?hd (cs := #[.int .i64 a0_0, .int .i64 a0_1, .string a0_2, .slice A0_3 l0_3.length c0_3, .slice A0_4 l0_4.length c0_4]) (t := 25) ?hr ?_; (case hd => rfl); (case hg => rfl); (case hr => first | (go_simp; done) | (go_simp; rfl)); intro gb670 hg w13 hbox hb; have n0_ := Aside0.mk (Kd.V_below (Kd.V_elderB (by (with_reducible repeat (first | apply Kd.V_alloc | apply Kd.V_drewN | apply Kd.V_drew)); exact HO0_4.out) gb670 (Nat.le_of_eq hg.symm)) hb); have n1_ := Aside0.mk (below_step (by repeat (first | (with_reducible first | exact HB.out | apply below_alloc | apply pw_below_drewN | apply below_drew1) | exact HB.out)) hb); have n2_ := Aside0.mk (hbox); have n3_ := Aside0.mk ((by rw [hg]; exact (below_size (by repeat (first | (with_reducible first | exact HB.out | apply below_alloc | apply pw_below_drewN | apply below_drew1) | exact HB.out))) : w.heap.size ≤ gb670)); have n4_ := Aside0.mk ((by rw [hg]; exact (below_size (by repeat (first | (with_reducible first | exact HB.out | apply below_alloc | apply pw_below_drewN | apply below_drew1) | exact HB.out))) : w.heap.size ≤ gb670)); clear HO0_4; clear HB; have HO0_4 := n0_; have HB := n1_; have BK670 := n2_; have GW670 := n3_; have GE670 := n4_; clear n0_ n1_ n2_ n3_ n4_; clear hb hbox hg) | ((with_reducible refine gate_dst (N := 4) rfl ?_); refine box_event ?hg (N := 4) ?hd (cs := #[.int .i64 0, .int .i64 0, .string (⟨#[]⟩ : ByteArray), .slice none 0 0, .slice none 0 0]) (t := 25) ?hr ?_; (case hd => rfl); (case hg => rfl); (case hr => first | (go_simp; done) | (go_simp; rfl)); intro gb671 hg w14 hbox hb; have n0_ := Aside0.mk (Kd.V_below (Kd.V_elderB (by (with_reducible repeat (first | apply Kd.V_alloc | apply Kd.V_drewN | apply Kd.V_drew)); exact HO0_4.out) gb671 (Nat.le_of_eq hg.symm)) hb); have n1_ := Aside0.mk (blk_below (g := gb670) (o := .cells #[.int .i64 a0_0, .int .i64 a0_1, .string a0_2, .slice A0_3 l0_3.length c0_3, .slice A0_4 l0_4.length c0_4] 25 (0, 0)) (by (with_reducible repeat (first | refine blk_drewN ?_ _ | refine blk_drew ?_ | refine blk_alloc ?_ _)); exact BK670.out) hb); have n2_ := Aside0.mk (below_step (by repeat (first | (with_reducible first | exact HB.out | apply below_alloc | apply pw_below_drewN | apply below_drew1 | refine below_set ?_ GE670.out) | exact HB.out)) hb); have n3_ := Aside0.mk (hbox); have n4_ := Aside0.mk ((by rw [hg]; exact (below_size (by repeat (first | (with_reducible first | exact HB.out | apply below_alloc | apply pw_below_drewN | apply below_drew1 | refine below_set ?_ GE670.out) | exact HB.out))) : w.heap.size ≤ gb671)); have n5_ := Aside0.mk ((by rw [hg]; exact (below_size (by repeat (first | (with_reducible first | exact HB.out | apply below_alloc | apply pw_below_drewN | apply below_drew1 | refine below_set ?_ GE670.out) | exact HB.out))) : w.heap.size ≤ gb671)); have n6_ := Aside0.mk ((by rw [hg]; exact Nat.ne_of_lt (blk_lt (g := gb670) (o := .cells #[.int .i64 a0_0, .int .i64 a0_1, .string a0_2, .slice A0_3 l0_3.length c0_3, .slice A0_4 l0_4.length c0_4] 25 (0, 0)) (by (with_reducible repeat (first | refine blk_drewN ?_ _ | refine blk_drew ?_ | refine blk_alloc ?_ _)); exact BK670.out)) : gb670 ≠ gb671)); have n7_ := Aside0.mk ((by rw [hg]; exact Nat.ne_of_gt (blk_lt (g := gb670) (o := .cells #[.int .i64 a0_0, .int .i64 a0_1, .string a0_2, .slice A0_3 l0_3.length c0_3, .slice A0_4 l0_4.length c0_4] 25 (0, 0)) (by (with_reducible repeat (first | refine blk_drewN ?_ _ | refine blk_drew ?_ | refine blk_alloc ?_ _)); exact BK670.out)) : gb671 ≠ gb670)); clear HO0_4; clear BK670; clear HB; have HO0_4 := n0_; have BK670 := n1_; have HB := n2_; have BK671 := n3_; have GW671 := n4_; have GE671 := n5_; have NB670_671 := n6_; have NB671_670 := n7_; clear n0_ n1_ n2_ n3_ n4_ n5_ n6_ n7_; clear hb hbox hg; have hnb15 := NB670_671.out; have hnc15 := NB671_670.out; have hcz16_0 : w14.cell? ⟨gb670, 0, none⟩ = some (.int .i64 a0_0) := (blk_cell BK670.out 0).trans rfl; have hcz16_1 : w14.cell? ⟨gb670, 1, none⟩ = some (.int .i64 a0_1) := (blk_cell BK670.out 1).trans rfl; have hcz16_2 : w14.cell? ⟨gb670, 2, none⟩ = some (.string a0_2) := (blk_cell BK670.out 2).trans rfl; have hcz16_3 : w14.cell? ⟨gb670, 3, none⟩ = some (.slice A0_3 l0_3.length c0_3) := (blk_cell BK670.out 3).trans rfl; have hcz16_4 : w14.cell? ⟨gb670, 4, none⟩ = some (.slice A0_4 l0_4.length c0_4) := (blk_cell BK670.out 4).trans rfl; have hfz16_0 := blk_frozen BK670.out 0; have hfz16_1 := blk_frozen BK670.out 1; have hfz16_2 := blk_frozen BK670.out 2; have hfz16_3 := blk_frozen BK670.out 3; have hfz16_4 := blk_frozen BK670.out 4) | ((with_reducible refine gate_callee (f := 77) rfl ?_); refine goesL_ (some 9) rfl rfl Try.func77 (by kernel_rfl) rfl #[.agg #[.int .i64 a0_0, .int .i64 a0_1, .string a0_2, .slice A0_3 l0_3.length c0_3, .slice A0_4 l0_4.length c0_4], .string a1] rfl (by (try simp only [List.map_toArray, List.map_cons, List.map_nil]); first | done | rfl | (simp only [List.length_drop, List.length_take]; rfl)) ?_; (with_reducible refine (sealringref07_At.calls k a0_0 a0_1 a0_2 _ _ l0_3 _ _ l0_4 a1 t672 _ ?side1 ?side2 ?side3 ?side4 A3.out).mono ?_); (case side1 => repeat (first | exact (Kd.C_below HR0_3.out HB.out) | (with_reducible refine Kd.C_alloc ?_ _) | (with_reducible refine Kd.C_drewN ?_ _) | (with_reducible refine Kd.C_drew ?_))); (case side2 => exact HC0_3.out); (case side3 => repeat (first | exact (Kd.V_reads' HO0_4.out).2.2 | (with_reducible refine Kd.C_alloc ?_ _) | (with_reducible refine Kd.C_drewN ?_ _) | (with_reducible refine Kd.C_drew ?_))); (case side4 => exact (Kd.V_reads' HO0_4.out).2.1); rintro e w17 ⟨rfl, hb⟩; refine ⟨_, rfl, ?_⟩; have n0_ := Aside0.mk (Kd.V_below (by (with_reducible repeat (first | apply Kd.V_alloc | apply Kd.V_drewN | apply Kd.V_drew)); exact HO0_4.out) hb); have n1_ := Aside0.mk (blk_below (g := gb670) (o := .cells #[.int .i64 a0_0, .int .i64 a0_1, .string a0_2, .slice A0_3 l0_3.length c0_3, .slice A0_4 l0_4.length c0_4] 25 (0, 0)) (by (with_reducible repeat (first | refine blk_drewN ?_ _ | refine blk_drew ?_ | refine blk_alloc ?_ _)); exact BK670.out) hb); have n2_ := Aside0.mk (blk_below (g := gb671) (o := .cells #[.int .i64 0, .int .i64 0, .string (⟨#[]⟩ : ByteArray), .slice none 0 0, .slice none 0 0] 25 (0, 0)) (by (with_reducible repeat (first | refine blk_drewN ?_ _ | refine blk_drew ?_ | refine blk_alloc ?_ _)); exact BK671.out) hb); have n3_ := Aside0.mk (below_step (by repeat (first | (with_reducible first | exact HB.out | apply below_alloc | apply pw_below_drewN | apply below_drew1 | refine below_set ?_ GE670.out | refine below_set ?_ GE671.out) | exact HB.out)) hb); clear HO0_4; clear BK670; clear BK671; clear HB; have HO0_4 := n0_; have BK670 := n1_; have BK671 := n2_; have HB := n3_; clear n0_ n1_ n2_ n3_; (try clear hb); (try clear hb2); (try clear hk); (try clear hi); have hcz18_0 : w17.cell? ⟨gb670, 0, none⟩ = some (.int .i64 a0_0) := (blk_cell BK670.out 0).trans rfl; have hcz18_1 : w17.cell? ⟨gb670, 1, none⟩ = some (.int .i64 a0_1) := (blk_cell BK670.out 1).trans rfl; have hcz18_2 : w17.cell? ⟨gb670, 2, none⟩ = some (.string a0_2) := (blk_cell BK670.out 2).trans rfl; have hcz18_3 : w17.cell? ⟨gb670, 3, none⟩ = some (.slice A0_3 l0_3.length c0_3) := (blk_cell BK670.out 3).trans rfl; have hcz18_4 : w17.cell? ⟨gb670, 4, none⟩ = some (.slice A0_4 l0_4.length c0_4) := (blk_cell BK670.out 4).trans rfl; have hfz18_0 := blk_frozen BK670.out 0; have hfz18_1 := blk_frozen BK670.out 1; have hfz18_2 := blk_frozen BK670.out 2; have hfz18_3 := blk_frozen BK670.out 3; have hfz18_4 := blk_frozen BK670.out 4; have p673 : 0 ≤ (t672 : Int) := of_decide_eq_true (by first | (with_reducible assumption) | assumption); have q673 : t672 < (l0_4.length : Int) := of_decide_eq_true (by first | (with_reducible assumption) | assumption); obtain ⟨ad673, A673_3, c673_3, A673_4, c673_4, e673, hx673_0, hx673_1, hx673_2, hx673_3, hx673_4, hl673_3, hi673_3, hl673_4, hi673_4⟩ := at_T25 (Kd.V_reads' HO0_4.out).2.2 t672 p673 q673; cases e673; obtain ⟨ce673, hce673, hMe673, hcc673⟩ := Kd.V_get HO0_4.out z25 t672 p673 (by first | exact q673 | exact of_decide_eq_true (by first | (with_reducible assumption) | assumption) | (have e_ := (Kd.V_reads' HO0_4.out).1; omega)); obtain ⟨ua673_3, uc673_3, ua673_4, uc673_4, rfl, ul673_3, ge673_3, ul673_4, ge673_4⟩ := k25_openF hMe673; have hv673_3 := hcc673 3 _ rfl; rw [add_field _ _ 3 (by omega)] at hv673_3; replace hv673_3 := Option.some.inj (hv673_3.symm.trans hx673_3); injection hv673_3 with hva_ hvn_ hvc_; rw [hva_] at ge673_3; rw [hvc_] at ul673_3; have HL673_3 := Aside0.mk (show Kd.V Kd.string 9 _ w.heap.size _ _ ((rd_T25 l0_4 t672).f3) from Kd.V_mk ul673_3 ge673_3); clear hva_ hvn_ hvc_ ge673_3 ul673_3; have hv673_4 := hcc673 4 _ rfl; rw [add_field _ _ 4 (by omega)] at hv673_4; replace hv673_4 := Option.some.inj (hv673_4.symm.trans hx673_4); injection hv673_4 with hva_ hvn_ hvc_; rw [hva_] at ge673_4; rw [hvc_] at ul673_4; have HL673_4 := Aside0.mk (show Kd.V k25 25 _ w.heap.size _ _ ((rd_T25 l0_4 t672).f4) from Kd.V_mk ul673_4 ge673_4); clear hva_ hvn_ hvc_ ge673_4 ul673_4; clear hcc673 hce673; have HR673_3 := Aside0.mk hi673_3; have HC673_3 := Aside0.mk hl673_3; clear hi673_3 hl673_3; have HR673_4 := Aside0.mk hi673_4; have HC673_4 := Aside0.mk hl673_4; clear hi673_4 hl673_4; replace p673 := eq_true p673; replace q673 := eq_true q673; have hcz19_0 : w17.cell? ⟨gb671, 0, none⟩ = some (.int .i64 0) := (blk_cell BK671.out 0).trans rfl; have hcz19_1 : w17.cell? ⟨gb671, 1, none⟩ = some (.int .i64 0) := (blk_cell BK671.out 1).trans rfl; have hcz19_2 : w17.cell? ⟨gb671, 2, none⟩ = some (.string (⟨#[]⟩ : ByteArray)) := (blk_cell BK671.out 2).trans rfl; have hcz19_3 : w17.cell? ⟨gb671, 3, none⟩ = some (.slice none 0 0) := (blk_cell BK671.out 3).trans rfl; have hcz19_4 : w17.cell? ⟨gb671, 4, none⟩ = some (.slice none 0 0) := (blk_cell BK671.out 4).trans rfl; have hfz19_0 := blk_frozen BK671.out 0; have hfz19_1 := blk_frozen BK671.out 1; have hfz19_2 := blk_frozen BK671.out 2; have hfz19_3 := blk_frozen BK671.out 3; have hfz19_4 := blk_frozen BK671.out 4))
        refine bodyPost_ret (results_ct rfl _ _ gb671 25 #[.int .i64 ((rd_T25 l0_4 t672).f0), .int .i64 ((rd_T25 l0_4 t672).f1), .string ((rd_T25 l0_4 t672).f2), .slice A673_3 ((rd_T25 l0_4 t672).f3).length c673_3, .slice A673_4 ((rd_T25 l0_4 t672).f4).length c673_4] (0, 0) _ rfl (by (with_reducible repeat (first | refine blk_drewN ?_ _ | refine blk_drew ?_ | refine blk_alloc ?_ _)); refine blk_put (cs := #[.int .i64 ((rd_T25 l0_4 t672).f0), .int .i64 ((rd_T25 l0_4 t672).f1), .string ((rd_T25 l0_4 t672).f2), .slice A673_3 ((rd_T25 l0_4 t672).f3).length c673_3, .slice none 0 0]) ?_ 4 _ rfl; (with_reducible repeat (first | refine blk_drewN ?_ _ | refine blk_drew ?_ | refine blk_alloc ?_ _)); refine blk_put (cs := #[.int .i64 ((rd_T25 l0_4 t672).f0), .int .i64 ((rd_T25 l0_4 t672).f1), .string ((rd_T25 l0_4 t672).f2), .slice none 0 0, .slice none 0 0]) ?_ 3 _ rfl; (with_reducible repeat (first | refine blk_drewN ?_ _ | refine blk_drew ?_ | refine blk_alloc ?_ _)); refine blk_put (cs := #[.int .i64 ((rd_T25 l0_4 t672).f0), .int .i64 ((rd_T25 l0_4 t672).f1), .string (⟨#[]⟩ : ByteArray), .slice none 0 0, .slice none 0 0]) ?_ 2 _ rfl; (with_reducible repeat (first | refine blk_drewN ?_ _ | refine blk_drew ?_ | refine blk_alloc ?_ _)); refine blk_put (cs := #[.int .i64 ((rd_T25 l0_4 t672).f0), .int .i64 0, .string (⟨#[]⟩ : ByteArray), .slice none 0 0, .slice none 0 0]) ?_ 1 _ rfl; (with_reducible repeat (first | refine blk_drewN ?_ _ | refine blk_drew ?_ | refine blk_alloc ?_ _)); refine blk_put (cs := #[.int .i64 0, .int .i64 0, .string (⟨#[]⟩ : ByteArray), .slice none 0 0, .slice none 0 0]) ?_ 0 _ rfl; (with_reducible repeat (first | refine blk_drewN ?_ _ | refine blk_drew ?_ | refine blk_alloc ?_ _)); exact BK671.out) Try.underlying25 rfl (by kernel_rfl)) rfl ?_
        exact ⟨_, _, by first | rfl | (simp [errW_none, errW_some] <;> rfl) | (simp [*, errW_none, errW_some] <;> rfl), by (with_reducible repeat (first | apply Kd.V_alloc | apply Kd.V_drewN | apply Kd.V_drew)); exact Kd.V_mono (Kd.V_far (p := ⟨gb671, 4, none⟩) (Kd.V_far (p := ⟨gb671, 3, none⟩) (Kd.V_far (p := ⟨gb671, 2, none⟩) (Kd.V_far (p := ⟨gb671, 1, none⟩) (Kd.V_far (p := ⟨gb671, 0, none⟩) (Kd.V_mono HL673_3.out (fun k_ hk => (⟨hk, hk.2⟩ : _ ∧ k_ ≠ gb671))) (fun _ hk => hk.2) (.int .i64 ((rd_T25 l0_4 t672).f0))) (fun _ hk => hk.2) (.int .i64 ((rd_T25 l0_4 t672).f1))) (fun _ hk => hk.2) (.string ((rd_T25 l0_4 t672).f2))) (fun _ hk => hk.2) (.slice A673_3 ((rd_T25 l0_4 t672).f3).length c673_3)) (fun _ hk => hk.2) (.slice A673_4 ((rd_T25 l0_4 t672).f4).length c673_4)) (fun _ hk => hk.1.1.1), by (with_reducible repeat (first | apply Kd.V_alloc | apply Kd.V_drewN | apply Kd.V_drew)); exact Kd.V_mono (Kd.V_far (p := ⟨gb671, 4, none⟩) (Kd.V_far (p := ⟨gb671, 3, none⟩) (Kd.V_far (p := ⟨gb671, 2, none⟩) (Kd.V_far (p := ⟨gb671, 1, none⟩) (Kd.V_far (p := ⟨gb671, 0, none⟩) (Kd.V_mono HL673_4.out (fun k_ hk => (⟨hk, hk.2⟩ : _ ∧ k_ ≠ gb671))) (fun _ hk => hk.2) (.int .i64 ((rd_T25 l0_4 t672).f0))) (fun _ hk => hk.2) (.int .i64 ((rd_T25 l0_4 t672).f1))) (fun _ hk => hk.2) (.string ((rd_T25 l0_4 t672).f2))) (fun _ hk => hk.2) (.slice A673_3 ((rd_T25 l0_4 t672).f3).length c673_3)) (fun _ hk => hk.2) (.slice A673_4 ((rd_T25 l0_4 t672).f4).length c673_4)) (fun _ hk => hk.1.1.1), by repeat (first | (with_reducible first | exact HB.out | apply below_alloc | apply pw_below_drewN | apply below_drew1 | refine below_set ?_ GE670.out | refine below_set ?_ GE671.out) | exact HB.out)⟩
      · rw [if_neg c12] at H
        exact absurd H (by simp)
    · rw [if_neg c11] at H
      exact absurd H (by simp)
end Go.Proofs.Ytjdldlphfifggaa.X
end
section
namespace Go.Proofs.Ytjdldlphfifggaa.X
open Go.RowKit Go.Proofs.YtjdldlphfifggaaW.PrintWords Go.Proofs.YtjdldlphfifggaaW.PrintLast
set_option linter.unusedVariables false
set_option linter.unusedSimpArgs false
theorem rdn (L : List S25) (i : Nat) (h : i < L.length) : rd_T25 L (i : Int) = L[i] := by
  unfold rd_T25
  rw [show ((i : Int)).toNat = i from rfl, List.getD_eq_getElem?_getD, List.getElem?_eq_getElem h]
  rfl
theorem rds (K : List ByteArray) (i : Nat) (h : i < K.length) : rdOf ByteArray.empty K (i : Int) = K[i] := by
  unfold rdOf
  rw [show ((i : Int)).toNat = i from rfl, List.getD_eq_getElem?_getD, List.getElem?_eq_getElem h]
  rfl
theorem rde (l : List S92) (i : Nat) (h : i < l.length) : rd_T92 l (i : Int) = l[i] := by
  unfold rd_T92
  rw [show ((i : Int)).toNat = i from rfl, List.getD_eq_getElem?_getD, List.getElem?_eq_getElem h]
  rfl
def ents (K : List ByteArray) (L : List S25) : List S92 := List.zipWith (fun k x => ⟨k, x⟩) K L
theorem ents_len (K : List ByteArray) (L : List S25) : (ents K L).length = min K.length L.length := by unfold ents; rw [List.length_zipWith]
theorem ents_get (K : List ByteArray) (L : List S25) (i : Nat) (h : i < (ents K L).length) (h1 : i < K.length) (h2 : i < L.length) : (ents K L)[i] = ⟨K[i], L[i]⟩ := by
  simp [ents, List.getElem_zipWith]
theorem entries_go (a0 a1 : Int) (a2 : ByteArray) (K : List ByteArray) (L : List S25) (hL : L.length ≤ 1466015503700) (m : Int) (hm : m = ((min K.length L.length : Nat) : Int)) :
    ∀ (n : Nat) (acc : List S92) (i : Nat), i + n = min K.length L.length → acc.length = i → Ev (fun k => tree_entries.l0 k acc m (i : Int) a0 a1 a2 K L) (acc ++ (ents K L).drop i) := by
  intro n
  induction n with
  | zero =>
    intro acc i hi ha
    rw [List.drop_eq_nil_of_le (by rw [ents_len]; omega), List.append_nil]
    refine Ev.step (f := fun _ => some acc) (fun k => ?_) (Ev.now _)
    rw [tree_entries.l0, if_neg (by omega)]
  | succ n ih =>
    intro acc i hi ha
    have hk : i < K.length := by omega
    have hl : i < L.length := by omega
    have he : i < (ents K L).length := by rw [ents_len]; omega
    have h2 := ih (acc ++ [⟨K[i], L[i]⟩]) (i + 1) (by omega) (by simp [ha])
    rw [List.append_assoc, List.singleton_append] at h2
    rw [List.drop_eq_getElem_cons he, ents_get K L i he hk hl]
    refine Ev.step (fun k => ?_) h2
    rw [tree_entries.l0, if_pos (by omega), if_pos (by omega), if_pos (by omega), if_pos (by omega), if_pos (by omega), rds K i hk, rdn L i hl, w64s i (by omega), eta_]
theorem entries_ev (a0 a1 : Int) (a2 : ByteArray) (K : List ByteArray) (L : List S25) (hL : L.length ≤ 1466015503700) : Ev (fun k => tree_entries.f k a0 a1 a2 K L) (ents K L) := by
  have := entries_go a0 a1 a2 K L hL (mn (K.length : Int) (L.length : Int)) (by unfold mn; split <;> omega) (min K.length L.length) [] 0 (by omega) rfl
  rw [List.nil_append, List.drop_zero] at this
  exact this
def look : List S92 → ByteArray → Option S25
  | [], _ => none
  | e :: r, s => if e.f0.toList = s.toList then some e.f1 else look r s
def idx : List S92 → ByteArray → Nat → Int
  | [], _, _ => -1
  | e :: r, s, i => if e.f0.toList = s.toList then (i : Int) else idx r s (i + 1)
def get (a0 : Int) (K : List ByteArray) (L : List S25) (s : ByteArray) : Option S25 := if a0 = 6 then look (ents K L) s else none
def tup : Option S25 → Int × Int × ByteArray × List ByteArray × List S25 × Bool
  | none => (0, 0, (⟨#[]⟩ : ByteArray), [], [], false)
  | some x => (x.f0, x.f1, x.f2, x.f3, x.f4, true)
theorem Get_go (s : ByteArray) (l : List S92) (hl : l.length ≤ 1466015503700) : ∀ (n i : Nat), i + n = l.length → Ev (fun k => tree_Get.l0 k s l (l.length : Int) (i : Int)) (tup (look (l.drop i) s)) := by
  intro n
  induction n with
  | zero =>
    intro i hi
    rw [List.drop_eq_nil_of_le (by omega)]
    refine Ev.step (f := fun _ => some (tup none)) (fun k => ?_) (Ev.now _)
    rw [tree_Get.l0, if_neg (by omega)]
    rfl
  | succ n ih =>
    intro i hi
    have h : i < l.length := by omega
    rw [List.drop_eq_getElem_cons h]
    by_cases c : l[i].f0.toList = s.toList
    · simp only [look, if_pos c]
      refine Ev.step (f := fun _ => some (tup (some l[i].f1))) (fun k => ?_) (Ev.now _)
      rw [tree_Get.l0, if_pos (by omega), if_pos (by omega), if_pos (by omega), rde l i h, if_pos c]
      rfl
    · simp only [look, if_neg c]
      refine Ev.step (fun k => ?_) (ih (i + 1) (by omega))
      rw [tree_Get.l0, if_pos (by omega), if_pos (by omega), if_pos (by omega), rde l i h, if_neg c, w64s i (by omega)]
theorem Get_ev (a0 a1 : Int) (a2 : ByteArray) (K : List ByteArray) (L : List S25) (s : ByteArray) (hL : L.length ≤ 1466015503700) : Ev (fun k => tree_Get.f k a0 a1 a2 K L s) (tup (get a0 K L s)) := by
  unfold tree_Get.f get
  by_cases c : a0 = 6
  · rw [if_pos c]
    refine evPos c (Ev.bind (f := fun n t => tree_Get.l0 n s t (t.length : Int) 0) (entries_ev a0 a1 a2 K L hL) ?_)
    have := Get_go s (ents K L) (by rw [ents_len]; omega) (ents K L).length 0 (by omega)
    rw [List.drop_zero] at this
    exact this
  · rw [if_neg c]
    exact evNeg c (Ev.now _)
def at_ (a0 : Int) (K : List ByteArray) (L : List S25) (s : ByteArray) : Int := if a0 = 6 then idx (ents K L) s 0 else -1
mutual
def nodes : S25 → List S25
  | ⟨a, b, s, K, L⟩ => ⟨a, b, s, K, L⟩ :: nodesL L
def nodesL : List S25 → List S25
  | [] => []
  | x :: r => nodes x ++ nodesL r
end
theorem nodes_eq (x : S25) : nodes x = x :: nodesL x.f4 := by cases x; rw [nodes]
end Go.Proofs.Ytjdldlphfifggaa.X
end
